import Derived.Test.YtlplogplicgfiaaZ5JG
namespace Go.Proofs.Ytlplogplicgfiaa
open Go Go.RowKit
theorem nine (p0 p1 p2 p3 p4 p5 p6 p7 : Prop) : (p0) ∨ (¬ p0 ∧ p1) ∨ (¬ p0 ∧ ¬ p1 ∧ p2) ∨ (¬ p0 ∧ ¬ p1 ∧ ¬ p2 ∧ p3) ∨ (¬ p0 ∧ ¬ p1 ∧ ¬ p2 ∧ ¬ p3 ∧ p4) ∨ (¬ p0 ∧ ¬ p1 ∧ ¬ p2 ∧ ¬ p3 ∧ ¬ p4 ∧ p5) ∨ (¬ p0 ∧ ¬ p1 ∧ ¬ p2 ∧ ¬ p3 ∧ ¬ p4 ∧ ¬ p5 ∧ p6) ∨ (¬ p0 ∧ ¬ p1 ∧ ¬ p2 ∧ ¬ p3 ∧ ¬ p4 ∧ ¬ p5 ∧ ¬ p6 ∧ p7) ∨ (¬ p0 ∧ ¬ p1 ∧ ¬ p2 ∧ ¬ p3 ∧ ¬ p4 ∧ ¬ p5 ∧ ¬ p6 ∧ ¬ p7) := by
  by_cases h0 : p0
  · exact .inl h0
  by_cases h1 : p1
  · exact .inr (.inl ⟨h0, h1⟩)
  by_cases h2 : p2
  · exact .inr (.inr (.inl ⟨h0, h1, h2⟩))
  by_cases h3 : p3
  · exact .inr (.inr (.inr (.inl ⟨h0, h1, h2, h3⟩)))
  by_cases h4 : p4
  · exact .inr (.inr (.inr (.inr (.inl ⟨h0, h1, h2, h3, h4⟩))))
  by_cases h5 : p5
  · exact .inr (.inr (.inr (.inr (.inr (.inl ⟨h0, h1, h2, h3, h4, h5⟩)))))
  by_cases h6 : p6
  · exact .inr (.inr (.inr (.inr (.inr (.inr (.inl ⟨h0, h1, h2, h3, h4, h5, h6⟩))))))
  by_cases h7 : p7
  · exact .inr (.inr (.inr (.inr (.inr (.inr (.inr (.inl ⟨h0, h1, h2, h3, h4, h5, h6, h7⟩)))))))
  exact .inr (.inr (.inr (.inr (.inr (.inr (.inr (.inr (⟨h0, h1, h2, h3, h4, h5, h6, h7⟩))))))))
theorem ones4 {a b c d : Value} (ha : a.oneCell' = true) (hb : b.oneCell' = true) (hc : c.oneCell' = true) (hd : d.oneCell' = true) : ∀ u ∈ #[a, b, c, d].toList, u.oneCell' = true := by simpa using ⟨ha, hb, hc, hd⟩
theorem retA3 {P : Program} {fn : Func} {R : Ending → World → Prop} {e : Env} {w : World} {t u s q : Tmp} {T : TypeId} {k by_ b : Nat} {z : Value} {cs : Array Value} (v2 v3 v4 : Value) {tb : TypeId} (hk : Ty P T k by_ true z) (hb : Blk w b tb cs) (hi : cs.size = k) (hr : fn.results = #[.cell t T, .tmp u, .tmp s, .tmp q]) (hv : e t = .pointer (some ⟨b, 0, none⟩)) (h2 : e u = v2) (h3 : e s = v3) (h4 : e q = v4)
    (h : R (.returned (.tuple #[.agg cs, v2, v3, v4])) w) : bodyE P fn R .ret e w :=
  ⟨_, fun tmps ht => by
    simp only [Array.getD_eq_getD_getElem?] at ht
    simp [results, hr, ht, hv, h2, h3, h4, asAddr, run_loadA hk hb hi], h⟩
structure Hd where
  total : Nat
  number : Nat
  life : Nat
  first : Nat
deriving DecidableEq
abbrev hdC (h : Hd) : Array Value := #[.int .i64 (h.total : Nat), .int .i64 (h.number : Nat), .int .i64 (h.life : Nat), .int .i64 (h.first : Nat)]
def headL (b : List Nat) : Hd := ⟨b.getD 2 0, wordL (b.drop 4), wordL (b.drop 8), wordL (b.drop 12)⟩
def leastB (b : List Nat) : Nat := if b.getD 1 0 + 1 = b.getD 2 0 then min (b.getD 1 0) 1 else 48
def badB (b : List Nat) : Bool := decide (b.getD 0 0 ≠ 1 ∨ b.getD 2 0 ≤ b.getD 1 0 ∨ 84 < b.getD 2 0 ∨ b.getD 3 0 < leastB b ∨ 48 < b.getD 3 0 ∨ wordL (b.drop 8) < 1 ∨ wordL (b.drop 12) < 1 ∨ wordL (b.drop 4) < wordL (b.drop 12))
def takeL (b : List Nat) : Option (Hd × Nat × List Nat) :=
  if badB b then none else if (b.drop (16 + b.getD 3 0)).any (fun c => decide (c ≠ 0)) then none else some (headL b, b.getD 1 0, (b.drop 16).take (b.getD 3 0))
def TRes (w w' : World) (r : Value) : Option (Hd × Nat × List Nat) → Prop
  | none => r = .tuple #[.agg (hdC ⟨0, 0, 0, 0⟩), .int .i64 0, .slice none 0 0, .bool false]
  | some (h, k, data) => ∃ v, r = .tuple #[.agg (hdC h), .int .i64 (k : Nat), v, .bool true] ∧ SU8s w' v data ∧ Fresh w v
theorem gd {b : List Nat} {k : Nat} (h : k < b.length) : b.getD k 0 = b[k] := by rw [List.getD_eq_getElem?_getD, List.getElem?_eq_getElem h]; rfl
theorem Blk.sub {w : World} {b : Nat} {ty : TypeId} {xs : List Nat} (h : Blk w b ty (blkV xs)) (hl : xs.length = 64) {l r : Nat} (hlr : l ≤ r) (hr : r ≤ 64) : U8s w (.slice (some ⟨b, l, none⟩) (r - l) (64 - l)) ((xs.drop l).take (r - l)) := by
  have e : ((xs.drop l).take (r - l)).length = r - l := by simp; omega
  refine ⟨_, _, by rw [e], by omega, by simp, fun j hj => ⟨_, rfl, ?_⟩⟩
  have hj2 : j < r - l := by
    have h9 := hj
    rw [List.length_map, e] at h9
    exact h9
  rw [add_none, h.cell]
  simp only [blkV, u8s, List.getElem?_toArray, List.getElem?_map, List.getElem?_take, if_pos hj2, List.getElem?_drop]
theorem R.slcA0 {P : Program} {ops : Array Oper} {S : Bool → Nat → Prop} {dr : Bool} {B : List Nat} {F : Env → World → Prop} {rest : List Oper} {e : Env} {w : World} {d : Tmp} {ty : TypeId} {pos : String} {aft : Array Edge} {x : Operand} {t el : TypeId} {by_ : Nat} {g : Bool} {z : Value} {b off len : Nat} {y : Operand} {ik : IntKind} (hu : P.underlying t = some (.array len el)) (hk : Ty P el 1 by_ g z) (hx : ev e x = .pointer (some ⟨b, off, none⟩)) (hy : ev e y = .int ik (len : Nat))
    (h : wpR P ops S dr (kind B) F rest (upd e d (.slice (some ⟨b, off, none⟩) 0 0)) w) : wpR P ops S dr (kind B) F (⟨some d, .slice t x (some y) none none, ty, pos, aft, none⟩ :: rest) e w :=
  R.quiet _ rfl (fun w' _ => by simp [execOp, hx, hy, Instr.sliceAt, Instr.sureAddr, underlying, hu, Instr.sliceBounds, Instr.sliceBound, asIntOf, hk.sizeOf]) h
theorem U8s.empty (w : World) (p : Addr) : U8s w (.slice (some p) 0 0) [] := ⟨_, _, rfl, Nat.le_refl _, rfl, fun j hj => by simp at hj⟩
theorem wordP (w : World) {v : Value} {xs : List Nat} {n : Nat} (hx : U8s w v xs) (hl : 4 ≤ xs.length) (hb : ∀ x ∈ xs, x < 256) (hp : wordL xs = n) :
    Calls Try.prog 77 #[v] w (Ret fun r w' => Ext w w' ∧ r = .int .i64 (n : Nat)) := by subst hp; exact word_ w hx hl hb
theorem containsP (w : World) {v : Value} {xs : List Nat} {q : Bool} (hx : U8s w v xs) (hl : xs.length < 1000000000) (hp : xs.any (fun c => decide (c ≠ 0)) = q) :
    Calls Try.prog 78 #[v, .func (.func 79) #[] #[]] w (Ret fun r w' => Ext w w' ∧ r = .bool q) := by subst hp; exact containsF_ w hx hl
theorem build103 {a b c d : Int} (w : World) : (Instr.build 103 #[(0, .int .i64 a), (1, .int .i64 b), (2, .int .i64 c), (3, .int .i64 d)]).run Try.prog w = .ok (.agg #[.int .i64 a, .int .i64 b, .int .i64 c, .int .i64 d]) w := by
  simp [Instr.build, t103.zero, underlying, Try.underlying103, t3.sizeOf, Instr.fill, Value.cells]
theorem build103_0 (w : World) : (Instr.build 103 #[]).run Try.prog w = .ok (.agg (hdC ⟨0, 0, 0, 0⟩)) w := by
  simp [Instr.build, t103.zero, underlying, Try.underlying103, t3.sizeOf, Instr.fill, Value.cells]
set_option maxHeartbeats 1600000 in
theorem take_ (w : World) {b : List Nat} (hb : BlockP b) :
    Calls Try.prog 73 #[.agg (blkV b)] w (Ret fun r w' => Ext w w' ∧ TRes w w' r (takeL b)) := by
  have hg : ∀ k, k < 64 → b.getD k 0 < 256 := fun k hk => by rw [gd (by rw [hb.1]; exact hk)]; exact hb.2 _ (List.getElem_mem _)
  have hbl := hb.1
  have h0 := hg 0 (by decide)
  have h1 := hg 1 (by decide)
  have h2 := hg 2 (by decide)
  have h3 := hg 3 (by decide)
  refine calls_E (args := [.agg (blkV b)]) 85 Try.func73 rfl rfl (by simp) ?_
  have hE : Ext w w := Upd.refl w
  refine E.seq ?_
  refine E.regionP rfl ?_
  refine R.box rfl nofun ?_
  intro b1 w1 hb1 hx1 hB1
  replace hb1 := Nat.le_trans hE.size hb1
  replace hE := hE.ext hx1
  replace hB1 : Blk w1 b1 27 (blkV b) := hB1
  refine R.alloc t103 nofun ?_
  intro b2 w1 hb2 hx1 hB2
  replace hb2 := Nat.le_trans hE.size hb2
  replace hB1 := hB1.ext hx1
  replace hE := hE.ext hx1
  replace hB2 : Blk _ b2 103 #[.int .i64 0, .int .i64 0, .int .i64 0, .int .i64 0] := hB2
  refine R.assign ?_
  refine R.assign ?_
  refine R.assign ?_
  refine R.nil ?_
  refine E.seq ?_
  have hW0 := hE.size
  refine E.regionF (fun c x => x < w1.heap.size ∧ (c = false → True)) [] [14, 16, 18] mixed rfl (by kernel_rfl) (fun _ _ h => h.1) ?_
  intro w2 hx2 hh2
  replace hB1 := hB1.ext hx2
  replace hB2 := hB2.ext hx2
  replace hE := hE.ext hx2
  have hEs : Ext w2 w2 := Upd.refl _
  have hS0 := hx2.size
  have hSB : ∀ b, b < w2.heap.size → b < w1.heap.size ∧ (true = false → (fun x => True) b) := fun b hb => ⟨by rw [hh2] at hb; exact hb, nofun⟩
  have hSA : ∀ b, b < w2.heap.size → (fun x => True) b → b < w1.heap.size ∧ (false = false → (fun x => True) b) := fun b hb h => ⟨by rw [hh2] at hb; exact hb, fun _ => h⟩
  have hSO : ∀ b, b < w.heap.size → b < w1.heap.size ∧ (false = false → (fun x => True) b) := fun b hb => hSA b (Nat.lt_of_lt_of_le hb hE.size) (trivial)
  have hB1s := hB1
  have hB2s := hB2
  refine G.q rfl (Nat.le_of_ble_eq_true rfl) ?_
  refine R.ixA (m := 2) Try.underlying27 t5 rfl rfl (by decide) ?_
  refine R.nil ?_
  refine G.q rfl (Nat.le_of_ble_eq_true rfl) ?_
  refine R.loadB (i := 0 + 2) (u := .int .u8 ((b.getD 2 0 : Nat) : Int)) t5 hB1 rfl (by rw [gd (by omega)]; simp [hb.1]) rfl (hSA b1 hB1s.lt trivial) ?_
  refine R.nil ?_
  refine G.q rfl (Nat.le_of_ble_eq_true rfl) ?_
  refine R.toI (n := b.getD 2 0) Try.underlying5 Try.underlying3 rfl (by omega) ?_
  refine R.nil ?_
  refine G.q rfl (Nat.le_of_ble_eq_true rfl) ?_
  refine R.slcA (l := 4) (r := 64) Try.underlying27 t5 rfl ⟨_, rfl⟩ rfl (by decide) (by decide) (by decide) ?_
  refine R.nil ?_
  refine G.l rfl rfl (.inl rfl) (Nat.le_of_ble_eq_true rfl) ?_
  intro w3 hx3
  replace hB1 := hB1.ext hx3
  replace hB2 := hB2.ext hx3
  replace hE := hE.ext hx3
  replace hEs := hEs.ext hx3
  refine R.callE1 ent77 (wordP _ (n := wordL (b.drop 4)) (xs := (b.drop 4).take (64 - 4)) (by rw [Nat.zero_add]; exact hB1.sub hb.1 (l := 4) (r := 64) (by decide) (by decide)) (by simp [hb.1]) (fun x hx => hb.2 x (List.mem_of_mem_drop (List.mem_of_mem_take hx))) (by rw [List.take_of_length_le (by simp [hb.1])])) rfl (fun _ _ hb => G.S1_lt (fun _ _ h => h.1) (Nat.le_trans hS0 hEs.size) hb) ?_
  rintro v14 w4 hx4 rfl
  replace hB1 := hB1.ext hx4
  replace hB2 := hB2.ext hx4
  replace hE := hE.ext hx4
  replace hEs := hEs.ext hx4
  refine R.nil ⟨hx4.size, ?_⟩
  intro K3 hK3 hN3
  refine G.q rfl (Nat.le_of_ble_eq_true rfl) ?_
  refine R.slcA (l := 8) (r := 64) Try.underlying27 t5 rfl ⟨_, rfl⟩ rfl (by decide) (by decide) (by decide) ?_
  refine R.nil ?_
  refine G.l rfl rfl (.inl rfl) (Nat.le_of_ble_eq_true rfl) ?_
  intro w5 hx5
  replace hB1 := hB1.ext hx5
  replace hB2 := hB2.ext hx5
  replace hE := hE.ext hx5
  replace hEs := hEs.ext hx5
  refine R.callE1 ent77 (wordP _ (n := wordL (b.drop 8)) (xs := (b.drop 8).take (64 - 8)) (by rw [Nat.zero_add]; exact hB1.sub hb.1 (l := 8) (r := 64) (by decide) (by decide)) (by simp [hb.1]) (fun x hx => hb.2 x (List.mem_of_mem_drop (List.mem_of_mem_take hx))) (by rw [List.take_of_length_le (by simp [hb.1])])) rfl (fun _ _ hb => G.S1_lt (fun _ _ h => h.1) (Nat.le_trans hS0 hEs.size) hb) ?_
  rintro v16 w6 hx6 rfl
  replace hB1 := hB1.ext hx6
  replace hB2 := hB2.ext hx6
  replace hE := hE.ext hx6
  replace hEs := hEs.ext hx6
  refine R.nil ⟨hx6.size, ?_⟩
  intro K5 hK5 hN5
  refine G.q rfl (Nat.le_of_ble_eq_true rfl) ?_
  refine R.slcA (l := 12) (r := 64) Try.underlying27 t5 rfl ⟨_, rfl⟩ rfl (by decide) (by decide) (by decide) ?_
  refine R.nil ?_
  refine G.l rfl rfl (.inl rfl) (Nat.le_of_ble_eq_true rfl) ?_
  intro w7 hx7
  replace hB1 := hB1.ext hx7
  replace hB2 := hB2.ext hx7
  replace hE := hE.ext hx7
  replace hEs := hEs.ext hx7
  refine R.callE1 ent77 (wordP _ (n := wordL (b.drop 12)) (xs := (b.drop 12).take (64 - 12)) (by rw [Nat.zero_add]; exact hB1.sub hb.1 (l := 12) (r := 64) (by decide) (by decide)) (by simp [hb.1]) (fun x hx => hb.2 x (List.mem_of_mem_drop (List.mem_of_mem_take hx))) (by rw [List.take_of_length_le (by simp [hb.1])])) rfl (fun _ _ hb => G.S1_lt (fun _ _ h => h.1) (Nat.le_trans hS0 hEs.size) hb) ?_
  rintro v18 w8 hx8 rfl
  replace hB1 := hB1.ext hx8
  replace hB2 := hB2.ext hx8
  replace hE := hE.ext hx8
  replace hEs := hEs.ext hx8
  refine R.nil ⟨hx8.size, ?_⟩
  intro K7 hK7 hN7
  refine G.q rfl (Nat.le_of_ble_eq_true rfl) ?_
  refine R.build build103 rfl ?_
  refine R.nil ?_
  refine G.alloc t103 ?_
  intro w9 b6 K9 hx9 hb6 hn6 hK9 hk6 hB6
  have ne2_6 : b2 ≠ b6 := by have h1 := hB2s.lt; rw [hh2] at h1; omega
  have hn06 := hb6
  replace hb6 := Nat.le_trans hW0 hb6
  replace hB1 := hB1.ext hx9
  replace hB2 := hB2.ext hx9
  replace hE := hE.ext hx9
  replace hEs := hEs.ext hx9
  replace hB6 : Blk _ b6 103 #[.int .i64 0, .int .i64 0, .int .i64 0, .int .i64 0] := hB6
  refine G.l rfl rfl (.inr rfl) (Nat.le_of_ble_eq_true rfl) ?_
  intro w10 hx10
  replace hB1 := hB1.ext hx10
  replace hB2 := hB2.ext hx10
  replace hB6 := hB6.ext hx10
  replace hE := hE.ext hx10
  replace hEs := hEs.ext hx10
  refine R.storeA t103 hB6 rfl rfl rfl rfl (ones4 rfl rfl rfl rfl) (fun _ h => G.S1_new (fun _ _ h => h.1) hn06 hk6 h) ?_
  intro w11 hU11 hs11 hN11
  replace hEs := hEs.trans hU11 (fun c hc h => by have h1 : c = b6 := h; rw [hh2] at hc; omega)
  replace hB1 := hB1.upT hU11 hB6 (by decide)
  replace hB2 := hB2.up hU11 (fun h => ne2_6 h)
  replace hE := hE.own hU11 hb6
  replace hB6 : Blk _ b6 103 #[.int .i64 ((b.getD 2 0 : Nat) : Int), .int .i64 (wordL (b.drop 4) : Nat), .int .i64 (wordL (b.drop 8) : Nat), .int .i64 (wordL (b.drop 12) : Nat)] := hN11
  clear hN11
  refine R.nil ⟨hU11.size, ?_⟩
  intro K10 hK10 hN10
  replace hk6 := hK10 _ hk6
  refine G.nil ?_
  refine E.seq ?_
  refine E.regionW allS [] mixed rfl (by kernel_rfl) ?_
  intro w12 hx12 hh12
  replace hB1 := hB1.ext hx12
  replace hB2 := hB2.ext hx12
  replace hB6 := hB6.ext hx12
  replace hE := hE.ext hx12
  refine R.ixA (m := 1) Try.underlying27 t5 rfl rfl (by decide) ?_
  refine R.loadB (i := 0 + 1) (u := .int .u8 ((b.getD 1 0 : Nat) : Int)) t5 hB1 rfl (by rw [gd (by omega)]; simp [hb.1]) rfl trivial ?_
  refine R.toI (n := b.getD 1 0) Try.underlying5 Try.underlying3 rfl (by omega) ?_
  refine R.ixA (m := 3) Try.underlying27 t5 rfl rfl (by decide) ?_
  refine R.loadB (i := 0 + 3) (u := .int .u8 ((b.getD 3 0 : Nat) : Int)) t5 hB1 rfl (by rw [gd (by omega)]; simp [hb.1]) rfl trivial ?_
  refine R.toI (n := b.getD 3 0) Try.underlying5 Try.underlying3 rfl (by omega) ?_
  refine R.assign ?_
  refine R.assign ?_
  refine R.nil ?_
  refine E.seq ?_
  refine E.regionP rfl ?_
  refine R.assign ?_
  refine R.nil ?_
  refine E.seq ?_
  refine E.seq ?_
  refine E.regionP rfl ?_
  refine R.move ?_
  refine R.fld fa103_0 rfl ?_
  refine R.loadB t3 hB6 rfl rfl rfl trivial ?_
  refine R.sub (m := ((b.getD 2 0 : Nat) : Int)) (n := 1) rfl rfl (by omega) (by omega) ?_
  refine R.eql rfl rfl rfl ?_
  refine R.nil ?_
  refine E.cutM (fun e wr => Ext w wr ∧ Blk wr b1 27 (blkV b) ∧ Blk wr b2 103 #[.int .i64 0, .int .i64 0, .int .i64 0, .int .i64 0] ∧ Blk wr b6 103 #[.int .i64 ((b.getD 2 0 : Nat) : Int), .int .i64 (wordL (b.drop 4) : Nat), .int .i64 (wordL (b.drop 8) : Nat), .int .i64 (wordL (b.drop 12) : Nat)] ∧ Has e [(1, .pointer (some ⟨b1, 0, none⟩)), (2, .pointer (some ⟨b2, 0, none⟩)), (6, .pointer (some ⟨b6, 0, none⟩)), (7, .int .i64 ((b.getD 1 0 : Nat) : Int)), (8, .int .i64 ((b.getD 3 0 : Nat) : Int)), (9, .int .i64 (leastB b : Nat))]) ?_ ?_
  · refine E.cond rfl (fun hc30 => ?_) (fun hc30 => ?_)
    · replace hc30 := dT hc30
      refine E.regionP rfl ?_
      refine R.move ?_
      refine R.minN (m := b.getD 1 0) (n := 1) rfl rfl ?_
      refine R.assign ?_
      refine R.nil ?_
      exact ⟨hE, hB1, hB2, hB6, rfl, rfl, rfl, rfl, rfl, by show Value.int _ _ = _; unfold leastB; rw [if_pos (by omega)], trivial⟩
    · replace hc30 := dF hc30
      refine E.skip ?_
      exact ⟨hE, hB1, hB2, hB6, rfl, rfl, rfl, rfl, rfl, by show Value.int _ _ = _; unfold leastB; rw [if_neg (by omega)]; rfl, trivial⟩
  · rintro e wr ⟨hE, hB1, hB2, hB6, hH⟩
    obtain ⟨e, rfl⟩ := hH.ex
    clear hH
    refine E.seq ?_
    refine E.seq ?_
    have hkk : (b.getD 0 0 ≠ 1) ∨ (¬ (b.getD 0 0 ≠ 1) ∧ b.getD 2 0 ≤ b.getD 1 0) ∨ (¬ (b.getD 0 0 ≠ 1) ∧ ¬ (b.getD 2 0 ≤ b.getD 1 0) ∧ 84 < b.getD 2 0) ∨ (¬ (b.getD 0 0 ≠ 1) ∧ ¬ (b.getD 2 0 ≤ b.getD 1 0) ∧ ¬ (84 < b.getD 2 0) ∧ b.getD 3 0 < leastB b) ∨ (¬ (b.getD 0 0 ≠ 1) ∧ ¬ (b.getD 2 0 ≤ b.getD 1 0) ∧ ¬ (84 < b.getD 2 0) ∧ ¬ (b.getD 3 0 < leastB b) ∧ 48 < b.getD 3 0) ∨ (¬ (b.getD 0 0 ≠ 1) ∧ ¬ (b.getD 2 0 ≤ b.getD 1 0) ∧ ¬ (84 < b.getD 2 0) ∧ ¬ (b.getD 3 0 < leastB b) ∧ ¬ (48 < b.getD 3 0) ∧ wordL (b.drop 8) < 1) ∨ (¬ (b.getD 0 0 ≠ 1) ∧ ¬ (b.getD 2 0 ≤ b.getD 1 0) ∧ ¬ (84 < b.getD 2 0) ∧ ¬ (b.getD 3 0 < leastB b) ∧ ¬ (48 < b.getD 3 0) ∧ ¬ (wordL (b.drop 8) < 1) ∧ wordL (b.drop 12) < 1) ∨ (¬ (b.getD 0 0 ≠ 1) ∧ ¬ (b.getD 2 0 ≤ b.getD 1 0) ∧ ¬ (84 < b.getD 2 0) ∧ ¬ (b.getD 3 0 < leastB b) ∧ ¬ (48 < b.getD 3 0) ∧ ¬ (wordL (b.drop 8) < 1) ∧ ¬ (wordL (b.drop 12) < 1) ∧ wordL (b.drop 4) < wordL (b.drop 12)) ∨ (¬ (b.getD 0 0 ≠ 1) ∧ ¬ (b.getD 2 0 ≤ b.getD 1 0) ∧ ¬ (84 < b.getD 2 0) ∧ ¬ (b.getD 3 0 < leastB b) ∧ ¬ (48 < b.getD 3 0) ∧ ¬ (wordL (b.drop 8) < 1) ∧ ¬ (wordL (b.drop 12) < 1) ∧ ¬ (wordL (b.drop 4) < wordL (b.drop 12))) := nine _ _ _ _ _ _ _ _
    rcases hkk with q0 | ⟨q0, q1⟩ | ⟨q0, q1, q2⟩ | ⟨q0, q1, q2, q3⟩ | ⟨q0, q1, q2, q3, q4⟩ | ⟨q0, q1, q2, q3, q4, q5⟩ | ⟨q0, q1, q2, q3, q4, q5, q6⟩ | ⟨q0, q1, q2, q3, q4, q5, q6, q7⟩ | ⟨q0, q1, q2, q3, q4, q5, q6, q7⟩
    · have htn : takeL b = none := by unfold takeL; rw [if_pos (by unfold badB; exact decide_eq_true (by omega))]
      refine E.regionP rfl ?_
      refine R.ixA (m := 0) Try.underlying27 t5 rfl rfl (by decide) ?_
      refine R.loadB (i := 0 + 0) (u := .int .u8 ((b.getD 0 0 : Nat) : Int)) t5 hB1 rfl (by rw [gd (by omega)]; simp [hb.1]) rfl trivial ?_
      refine R.neq (b := true) rfl rfl (by rw [decide_eq_false (by omega)]; rfl) ?_
      refine R.move ?_
      refine R.gF rfl rfl rfl ?_
      refine R.gF rfl rfl rfl ?_
      refine R.gF rfl rfl rfl ?_
      refine R.gF rfl rfl rfl ?_
      refine R.pickT rfl ?_
      refine R.move ?_
      refine R.gF rfl rfl rfl ?_
      refine R.gF rfl rfl rfl ?_
      refine R.gF rfl rfl rfl ?_
      refine R.pickT rfl ?_
      refine R.move ?_
      refine R.gF rfl rfl rfl ?_
      refine R.gF rfl rfl rfl ?_
      refine R.gF rfl rfl rfl ?_
      refine R.pickT rfl ?_
      refine R.move ?_
      refine R.gF rfl rfl rfl ?_
      refine R.gF rfl rfl rfl ?_
      refine R.pickT rfl ?_
      refine R.move ?_
      refine R.gF rfl rfl rfl ?_
      refine R.gF rfl rfl rfl ?_
      refine R.gF rfl rfl rfl ?_
      refine R.pickT rfl ?_
      refine R.move ?_
      refine R.gF rfl rfl rfl ?_
      refine R.gF rfl rfl rfl ?_
      refine R.gF rfl rfl rfl ?_
      refine R.pickT rfl ?_
      refine R.move ?_
      refine R.gF rfl rfl rfl ?_
      refine R.gF rfl rfl rfl ?_
      refine R.gF rfl rfl rfl ?_
      refine R.gF rfl rfl rfl ?_
      refine R.gF rfl rfl rfl ?_
      refine R.pickT rfl ?_
      refine R.nil ?_
      refine E.condT rfl ?_
      refine E.seq ?_
      refine E.regionP rfl ?_
      refine R.build build103_0 rfl ?_
      refine R.storeA t103 hB2 rfl rfl rfl rfl (by simp [Value.oneCell']) nofun ?_
      intro w20 hU20 hs20 hN20
      replace hE := hE.own hU20 hb2
      replace hB2 := hN20
      refine R.assign ?_
      refine R.assign ?_
      refine R.assign ?_
      refine R.nil ?_
      refine E.ret ?_
      refine retA3 (.int .i64 0) (.slice none 0 0) (.bool false) t103 hB2 rfl rfl rfl rfl rfl rfl ⟨_, rfl, hE, ?_⟩
      rw [htn]; rfl
    · have htn : takeL b = none := by unfold takeL; rw [if_pos (by unfold badB; exact decide_eq_true (by omega))]
      refine E.regionP rfl ?_
      refine R.ixA (m := 0) Try.underlying27 t5 rfl rfl (by decide) ?_
      refine R.loadB (i := 0 + 0) (u := .int .u8 ((b.getD 0 0 : Nat) : Int)) t5 hB1 rfl (by rw [gd (by omega)]; simp [hb.1]) rfl trivial ?_
      refine R.neq (b := false) rfl rfl (by rw [decide_eq_true (by omega)]; rfl) ?_
      refine R.move ?_
      refine R.gT rfl rfl ?_
      refine R.move ?_
      refine R.gT rfl rfl ?_
      refine R.fld fa103_0 rfl ?_
      refine R.gT rfl rfl ?_
      refine R.loadB t3 hB6 rfl rfl rfl trivial ?_
      refine R.gT rfl rfl ?_
      refine R.geq (b := true) rfl rfl (decide_eq_true (by omega)) ?_
      refine R.pickF rfl ?_
      refine R.move ?_
      refine R.gF rfl rfl rfl ?_
      refine R.gF rfl rfl rfl ?_
      refine R.gF rfl rfl rfl ?_
      refine R.pickT rfl ?_
      refine R.move ?_
      refine R.gF rfl rfl rfl ?_
      refine R.gF rfl rfl rfl ?_
      refine R.gF rfl rfl rfl ?_
      refine R.pickT rfl ?_
      refine R.move ?_
      refine R.gF rfl rfl rfl ?_
      refine R.gF rfl rfl rfl ?_
      refine R.pickT rfl ?_
      refine R.move ?_
      refine R.gF rfl rfl rfl ?_
      refine R.gF rfl rfl rfl ?_
      refine R.gF rfl rfl rfl ?_
      refine R.pickT rfl ?_
      refine R.move ?_
      refine R.gF rfl rfl rfl ?_
      refine R.gF rfl rfl rfl ?_
      refine R.gF rfl rfl rfl ?_
      refine R.pickT rfl ?_
      refine R.move ?_
      refine R.gF rfl rfl rfl ?_
      refine R.gF rfl rfl rfl ?_
      refine R.gF rfl rfl rfl ?_
      refine R.gF rfl rfl rfl ?_
      refine R.gF rfl rfl rfl ?_
      refine R.pickT rfl ?_
      refine R.nil ?_
      refine E.condT rfl ?_
      refine E.seq ?_
      refine E.regionP rfl ?_
      refine R.build build103_0 rfl ?_
      refine R.storeA t103 hB2 rfl rfl rfl rfl (by simp [Value.oneCell']) nofun ?_
      intro w20 hU20 hs20 hN20
      replace hE := hE.own hU20 hb2
      replace hB2 := hN20
      refine R.assign ?_
      refine R.assign ?_
      refine R.assign ?_
      refine R.nil ?_
      refine E.ret ?_
      refine retA3 (.int .i64 0) (.slice none 0 0) (.bool false) t103 hB2 rfl rfl rfl rfl rfl rfl ⟨_, rfl, hE, ?_⟩
      rw [htn]; rfl
    · have htn : takeL b = none := by unfold takeL; rw [if_pos (by unfold badB; exact decide_eq_true (by omega))]
      refine E.regionP rfl ?_
      refine R.ixA (m := 0) Try.underlying27 t5 rfl rfl (by decide) ?_
      refine R.loadB (i := 0 + 0) (u := .int .u8 ((b.getD 0 0 : Nat) : Int)) t5 hB1 rfl (by rw [gd (by omega)]; simp [hb.1]) rfl trivial ?_
      refine R.neq (b := false) rfl rfl (by rw [decide_eq_true (by omega)]; rfl) ?_
      refine R.move ?_
      refine R.gT rfl rfl ?_
      refine R.move ?_
      refine R.gT rfl rfl ?_
      refine R.fld fa103_0 rfl ?_
      refine R.gT rfl rfl ?_
      refine R.loadB t3 hB6 rfl rfl rfl trivial ?_
      refine R.gT rfl rfl ?_
      refine R.geq (b := false) rfl rfl (decide_eq_false (by omega)) ?_
      refine R.pickF rfl ?_
      refine R.move ?_
      refine R.gT rfl rfl ?_
      refine R.fld fa103_0 rfl ?_
      refine R.gT rfl rfl ?_
      refine R.loadB t3 hB6 rfl rfl rfl trivial ?_
      refine R.gT rfl rfl ?_
      refine R.gtr (b := true) rfl rfl (decide_eq_true (by omega)) ?_
      refine R.pickF rfl ?_
      refine R.move ?_
      refine R.gF rfl rfl rfl ?_
      refine R.gF rfl rfl rfl ?_
      refine R.gF rfl rfl rfl ?_
      refine R.pickT rfl ?_
      refine R.move ?_
      refine R.gF rfl rfl rfl ?_
      refine R.gF rfl rfl rfl ?_
      refine R.pickT rfl ?_
      refine R.move ?_
      refine R.gF rfl rfl rfl ?_
      refine R.gF rfl rfl rfl ?_
      refine R.gF rfl rfl rfl ?_
      refine R.pickT rfl ?_
      refine R.move ?_
      refine R.gF rfl rfl rfl ?_
      refine R.gF rfl rfl rfl ?_
      refine R.gF rfl rfl rfl ?_
      refine R.pickT rfl ?_
      refine R.move ?_
      refine R.gF rfl rfl rfl ?_
      refine R.gF rfl rfl rfl ?_
      refine R.gF rfl rfl rfl ?_
      refine R.gF rfl rfl rfl ?_
      refine R.gF rfl rfl rfl ?_
      refine R.pickT rfl ?_
      refine R.nil ?_
      refine E.condT rfl ?_
      refine E.seq ?_
      refine E.regionP rfl ?_
      refine R.build build103_0 rfl ?_
      refine R.storeA t103 hB2 rfl rfl rfl rfl (by simp [Value.oneCell']) nofun ?_
      intro w20 hU20 hs20 hN20
      replace hE := hE.own hU20 hb2
      replace hB2 := hN20
      refine R.assign ?_
      refine R.assign ?_
      refine R.assign ?_
      refine R.nil ?_
      refine E.ret ?_
      refine retA3 (.int .i64 0) (.slice none 0 0) (.bool false) t103 hB2 rfl rfl rfl rfl rfl rfl ⟨_, rfl, hE, ?_⟩
      rw [htn]; rfl
    · have htn : takeL b = none := by unfold takeL; rw [if_pos (by unfold badB; exact decide_eq_true (by omega))]
      refine E.regionP rfl ?_
      refine R.ixA (m := 0) Try.underlying27 t5 rfl rfl (by decide) ?_
      refine R.loadB (i := 0 + 0) (u := .int .u8 ((b.getD 0 0 : Nat) : Int)) t5 hB1 rfl (by rw [gd (by omega)]; simp [hb.1]) rfl trivial ?_
      refine R.neq (b := false) rfl rfl (by rw [decide_eq_true (by omega)]; rfl) ?_
      refine R.move ?_
      refine R.gT rfl rfl ?_
      refine R.move ?_
      refine R.gT rfl rfl ?_
      refine R.fld fa103_0 rfl ?_
      refine R.gT rfl rfl ?_
      refine R.loadB t3 hB6 rfl rfl rfl trivial ?_
      refine R.gT rfl rfl ?_
      refine R.geq (b := false) rfl rfl (decide_eq_false (by omega)) ?_
      refine R.pickF rfl ?_
      refine R.move ?_
      refine R.gT rfl rfl ?_
      refine R.fld fa103_0 rfl ?_
      refine R.gT rfl rfl ?_
      refine R.loadB t3 hB6 rfl rfl rfl trivial ?_
      refine R.gT rfl rfl ?_
      refine R.gtr (b := false) rfl rfl (decide_eq_false (by omega)) ?_
      refine R.pickF rfl ?_
      refine R.move ?_
      refine R.gT rfl rfl ?_
      refine R.move ?_
      refine R.gT rfl rfl ?_
      refine R.move ?_
      refine R.gT rfl rfl ?_
      refine R.lss (b := true) rfl rfl (decide_eq_true (by omega)) ?_
      refine R.pickF rfl ?_
      refine R.move ?_
      refine R.gF rfl rfl rfl ?_
      refine R.gF rfl rfl rfl ?_
      refine R.pickT rfl ?_
      refine R.move ?_
      refine R.gF rfl rfl rfl ?_
      refine R.gF rfl rfl rfl ?_
      refine R.gF rfl rfl rfl ?_
      refine R.pickT rfl ?_
      refine R.move ?_
      refine R.gF rfl rfl rfl ?_
      refine R.gF rfl rfl rfl ?_
      refine R.gF rfl rfl rfl ?_
      refine R.pickT rfl ?_
      refine R.move ?_
      refine R.gF rfl rfl rfl ?_
      refine R.gF rfl rfl rfl ?_
      refine R.gF rfl rfl rfl ?_
      refine R.gF rfl rfl rfl ?_
      refine R.gF rfl rfl rfl ?_
      refine R.pickT rfl ?_
      refine R.nil ?_
      refine E.condT rfl ?_
      refine E.seq ?_
      refine E.regionP rfl ?_
      refine R.build build103_0 rfl ?_
      refine R.storeA t103 hB2 rfl rfl rfl rfl (by simp [Value.oneCell']) nofun ?_
      intro w20 hU20 hs20 hN20
      replace hE := hE.own hU20 hb2
      replace hB2 := hN20
      refine R.assign ?_
      refine R.assign ?_
      refine R.assign ?_
      refine R.nil ?_
      refine E.ret ?_
      refine retA3 (.int .i64 0) (.slice none 0 0) (.bool false) t103 hB2 rfl rfl rfl rfl rfl rfl ⟨_, rfl, hE, ?_⟩
      rw [htn]; rfl
    · have htn : takeL b = none := by unfold takeL; rw [if_pos (by unfold badB; exact decide_eq_true (by omega))]
      refine E.regionP rfl ?_
      refine R.ixA (m := 0) Try.underlying27 t5 rfl rfl (by decide) ?_
      refine R.loadB (i := 0 + 0) (u := .int .u8 ((b.getD 0 0 : Nat) : Int)) t5 hB1 rfl (by rw [gd (by omega)]; simp [hb.1]) rfl trivial ?_
      refine R.neq (b := false) rfl rfl (by rw [decide_eq_true (by omega)]; rfl) ?_
      refine R.move ?_
      refine R.gT rfl rfl ?_
      refine R.move ?_
      refine R.gT rfl rfl ?_
      refine R.fld fa103_0 rfl ?_
      refine R.gT rfl rfl ?_
      refine R.loadB t3 hB6 rfl rfl rfl trivial ?_
      refine R.gT rfl rfl ?_
      refine R.geq (b := false) rfl rfl (decide_eq_false (by omega)) ?_
      refine R.pickF rfl ?_
      refine R.move ?_
      refine R.gT rfl rfl ?_
      refine R.fld fa103_0 rfl ?_
      refine R.gT rfl rfl ?_
      refine R.loadB t3 hB6 rfl rfl rfl trivial ?_
      refine R.gT rfl rfl ?_
      refine R.gtr (b := false) rfl rfl (decide_eq_false (by omega)) ?_
      refine R.pickF rfl ?_
      refine R.move ?_
      refine R.gT rfl rfl ?_
      refine R.move ?_
      refine R.gT rfl rfl ?_
      refine R.move ?_
      refine R.gT rfl rfl ?_
      refine R.lss (b := false) rfl rfl (decide_eq_false (by omega)) ?_
      refine R.pickF rfl ?_
      refine R.move ?_
      refine R.gT rfl rfl ?_
      refine R.move ?_
      refine R.gT rfl rfl ?_
      refine R.gtr (b := true) rfl rfl (decide_eq_true (by omega)) ?_
      refine R.pickF rfl ?_
      refine R.move ?_
      refine R.gF rfl rfl rfl ?_
      refine R.gF rfl rfl rfl ?_
      refine R.gF rfl rfl rfl ?_
      refine R.pickT rfl ?_
      refine R.move ?_
      refine R.gF rfl rfl rfl ?_
      refine R.gF rfl rfl rfl ?_
      refine R.gF rfl rfl rfl ?_
      refine R.pickT rfl ?_
      refine R.move ?_
      refine R.gF rfl rfl rfl ?_
      refine R.gF rfl rfl rfl ?_
      refine R.gF rfl rfl rfl ?_
      refine R.gF rfl rfl rfl ?_
      refine R.gF rfl rfl rfl ?_
      refine R.pickT rfl ?_
      refine R.nil ?_
      refine E.condT rfl ?_
      refine E.seq ?_
      refine E.regionP rfl ?_
      refine R.build build103_0 rfl ?_
      refine R.storeA t103 hB2 rfl rfl rfl rfl (by simp [Value.oneCell']) nofun ?_
      intro w20 hU20 hs20 hN20
      replace hE := hE.own hU20 hb2
      replace hB2 := hN20
      refine R.assign ?_
      refine R.assign ?_
      refine R.assign ?_
      refine R.nil ?_
      refine E.ret ?_
      refine retA3 (.int .i64 0) (.slice none 0 0) (.bool false) t103 hB2 rfl rfl rfl rfl rfl rfl ⟨_, rfl, hE, ?_⟩
      rw [htn]; rfl
    · have htn : takeL b = none := by unfold takeL; rw [if_pos (by unfold badB; exact decide_eq_true (by omega))]
      refine E.regionP rfl ?_
      refine R.ixA (m := 0) Try.underlying27 t5 rfl rfl (by decide) ?_
      refine R.loadB (i := 0 + 0) (u := .int .u8 ((b.getD 0 0 : Nat) : Int)) t5 hB1 rfl (by rw [gd (by omega)]; simp [hb.1]) rfl trivial ?_
      refine R.neq (b := false) rfl rfl (by rw [decide_eq_true (by omega)]; rfl) ?_
      refine R.move ?_
      refine R.gT rfl rfl ?_
      refine R.move ?_
      refine R.gT rfl rfl ?_
      refine R.fld fa103_0 rfl ?_
      refine R.gT rfl rfl ?_
      refine R.loadB t3 hB6 rfl rfl rfl trivial ?_
      refine R.gT rfl rfl ?_
      refine R.geq (b := false) rfl rfl (decide_eq_false (by omega)) ?_
      refine R.pickF rfl ?_
      refine R.move ?_
      refine R.gT rfl rfl ?_
      refine R.fld fa103_0 rfl ?_
      refine R.gT rfl rfl ?_
      refine R.loadB t3 hB6 rfl rfl rfl trivial ?_
      refine R.gT rfl rfl ?_
      refine R.gtr (b := false) rfl rfl (decide_eq_false (by omega)) ?_
      refine R.pickF rfl ?_
      refine R.move ?_
      refine R.gT rfl rfl ?_
      refine R.move ?_
      refine R.gT rfl rfl ?_
      refine R.move ?_
      refine R.gT rfl rfl ?_
      refine R.lss (b := false) rfl rfl (decide_eq_false (by omega)) ?_
      refine R.pickF rfl ?_
      refine R.move ?_
      refine R.gT rfl rfl ?_
      refine R.move ?_
      refine R.gT rfl rfl ?_
      refine R.gtr (b := false) rfl rfl (decide_eq_false (by omega)) ?_
      refine R.pickF rfl ?_
      refine R.move ?_
      refine R.gT rfl rfl ?_
      refine R.fld fa103_2 rfl ?_
      refine R.gT rfl rfl ?_
      refine R.loadB t3 hB6 rfl rfl rfl trivial ?_
      refine R.gT rfl rfl ?_
      refine R.lss (b := true) rfl rfl (decide_eq_true (by omega)) ?_
      refine R.pickF rfl ?_
      refine R.move ?_
      refine R.gF rfl rfl rfl ?_
      refine R.gF rfl rfl rfl ?_
      refine R.gF rfl rfl rfl ?_
      refine R.pickT rfl ?_
      refine R.move ?_
      refine R.gF rfl rfl rfl ?_
      refine R.gF rfl rfl rfl ?_
      refine R.gF rfl rfl rfl ?_
      refine R.gF rfl rfl rfl ?_
      refine R.gF rfl rfl rfl ?_
      refine R.pickT rfl ?_
      refine R.nil ?_
      refine E.condT rfl ?_
      refine E.seq ?_
      refine E.regionP rfl ?_
      refine R.build build103_0 rfl ?_
      refine R.storeA t103 hB2 rfl rfl rfl rfl (by simp [Value.oneCell']) nofun ?_
      intro w20 hU20 hs20 hN20
      replace hE := hE.own hU20 hb2
      replace hB2 := hN20
      refine R.assign ?_
      refine R.assign ?_
      refine R.assign ?_
      refine R.nil ?_
      refine E.ret ?_
      refine retA3 (.int .i64 0) (.slice none 0 0) (.bool false) t103 hB2 rfl rfl rfl rfl rfl rfl ⟨_, rfl, hE, ?_⟩
      rw [htn]; rfl
    · have htn : takeL b = none := by unfold takeL; rw [if_pos (by unfold badB; exact decide_eq_true (by omega))]
      refine E.regionP rfl ?_
      refine R.ixA (m := 0) Try.underlying27 t5 rfl rfl (by decide) ?_
      refine R.loadB (i := 0 + 0) (u := .int .u8 ((b.getD 0 0 : Nat) : Int)) t5 hB1 rfl (by rw [gd (by omega)]; simp [hb.1]) rfl trivial ?_
      refine R.neq (b := false) rfl rfl (by rw [decide_eq_true (by omega)]; rfl) ?_
      refine R.move ?_
      refine R.gT rfl rfl ?_
      refine R.move ?_
      refine R.gT rfl rfl ?_
      refine R.fld fa103_0 rfl ?_
      refine R.gT rfl rfl ?_
      refine R.loadB t3 hB6 rfl rfl rfl trivial ?_
      refine R.gT rfl rfl ?_
      refine R.geq (b := false) rfl rfl (decide_eq_false (by omega)) ?_
      refine R.pickF rfl ?_
      refine R.move ?_
      refine R.gT rfl rfl ?_
      refine R.fld fa103_0 rfl ?_
      refine R.gT rfl rfl ?_
      refine R.loadB t3 hB6 rfl rfl rfl trivial ?_
      refine R.gT rfl rfl ?_
      refine R.gtr (b := false) rfl rfl (decide_eq_false (by omega)) ?_
      refine R.pickF rfl ?_
      refine R.move ?_
      refine R.gT rfl rfl ?_
      refine R.move ?_
      refine R.gT rfl rfl ?_
      refine R.move ?_
      refine R.gT rfl rfl ?_
      refine R.lss (b := false) rfl rfl (decide_eq_false (by omega)) ?_
      refine R.pickF rfl ?_
      refine R.move ?_
      refine R.gT rfl rfl ?_
      refine R.move ?_
      refine R.gT rfl rfl ?_
      refine R.gtr (b := false) rfl rfl (decide_eq_false (by omega)) ?_
      refine R.pickF rfl ?_
      refine R.move ?_
      refine R.gT rfl rfl ?_
      refine R.fld fa103_2 rfl ?_
      refine R.gT rfl rfl ?_
      refine R.loadB t3 hB6 rfl rfl rfl trivial ?_
      refine R.gT rfl rfl ?_
      refine R.lss (b := false) rfl rfl (decide_eq_false (by omega)) ?_
      refine R.pickF rfl ?_
      refine R.move ?_
      refine R.gT rfl rfl ?_
      refine R.fld fa103_3 rfl ?_
      refine R.gT rfl rfl ?_
      refine R.loadB t3 hB6 rfl rfl rfl trivial ?_
      refine R.gT rfl rfl ?_
      refine R.lss (b := true) rfl rfl (decide_eq_true (by omega)) ?_
      refine R.pickF rfl ?_
      refine R.move ?_
      refine R.gF rfl rfl rfl ?_
      refine R.gF rfl rfl rfl ?_
      refine R.gF rfl rfl rfl ?_
      refine R.gF rfl rfl rfl ?_
      refine R.gF rfl rfl rfl ?_
      refine R.pickT rfl ?_
      refine R.nil ?_
      refine E.condT rfl ?_
      refine E.seq ?_
      refine E.regionP rfl ?_
      refine R.build build103_0 rfl ?_
      refine R.storeA t103 hB2 rfl rfl rfl rfl (by simp [Value.oneCell']) nofun ?_
      intro w20 hU20 hs20 hN20
      replace hE := hE.own hU20 hb2
      replace hB2 := hN20
      refine R.assign ?_
      refine R.assign ?_
      refine R.assign ?_
      refine R.nil ?_
      refine E.ret ?_
      refine retA3 (.int .i64 0) (.slice none 0 0) (.bool false) t103 hB2 rfl rfl rfl rfl rfl rfl ⟨_, rfl, hE, ?_⟩
      rw [htn]; rfl
    · have htn : takeL b = none := by unfold takeL; rw [if_pos (by unfold badB; exact decide_eq_true (by omega))]
      refine E.regionP rfl ?_
      refine R.ixA (m := 0) Try.underlying27 t5 rfl rfl (by decide) ?_
      refine R.loadB (i := 0 + 0) (u := .int .u8 ((b.getD 0 0 : Nat) : Int)) t5 hB1 rfl (by rw [gd (by omega)]; simp [hb.1]) rfl trivial ?_
      refine R.neq (b := false) rfl rfl (by rw [decide_eq_true (by omega)]; rfl) ?_
      refine R.move ?_
      refine R.gT rfl rfl ?_
      refine R.move ?_
      refine R.gT rfl rfl ?_
      refine R.fld fa103_0 rfl ?_
      refine R.gT rfl rfl ?_
      refine R.loadB t3 hB6 rfl rfl rfl trivial ?_
      refine R.gT rfl rfl ?_
      refine R.geq (b := false) rfl rfl (decide_eq_false (by omega)) ?_
      refine R.pickF rfl ?_
      refine R.move ?_
      refine R.gT rfl rfl ?_
      refine R.fld fa103_0 rfl ?_
      refine R.gT rfl rfl ?_
      refine R.loadB t3 hB6 rfl rfl rfl trivial ?_
      refine R.gT rfl rfl ?_
      refine R.gtr (b := false) rfl rfl (decide_eq_false (by omega)) ?_
      refine R.pickF rfl ?_
      refine R.move ?_
      refine R.gT rfl rfl ?_
      refine R.move ?_
      refine R.gT rfl rfl ?_
      refine R.move ?_
      refine R.gT rfl rfl ?_
      refine R.lss (b := false) rfl rfl (decide_eq_false (by omega)) ?_
      refine R.pickF rfl ?_
      refine R.move ?_
      refine R.gT rfl rfl ?_
      refine R.move ?_
      refine R.gT rfl rfl ?_
      refine R.gtr (b := false) rfl rfl (decide_eq_false (by omega)) ?_
      refine R.pickF rfl ?_
      refine R.move ?_
      refine R.gT rfl rfl ?_
      refine R.fld fa103_2 rfl ?_
      refine R.gT rfl rfl ?_
      refine R.loadB t3 hB6 rfl rfl rfl trivial ?_
      refine R.gT rfl rfl ?_
      refine R.lss (b := false) rfl rfl (decide_eq_false (by omega)) ?_
      refine R.pickF rfl ?_
      refine R.move ?_
      refine R.gT rfl rfl ?_
      refine R.fld fa103_3 rfl ?_
      refine R.gT rfl rfl ?_
      refine R.loadB t3 hB6 rfl rfl rfl trivial ?_
      refine R.gT rfl rfl ?_
      refine R.lss (b := false) rfl rfl (decide_eq_false (by omega)) ?_
      refine R.pickF rfl ?_
      refine R.move ?_
      refine R.gT rfl rfl ?_
      refine R.fld fa103_3 rfl ?_
      refine R.gT rfl rfl ?_
      refine R.loadB t3 hB6 rfl rfl rfl trivial ?_
      refine R.gT rfl rfl ?_
      refine R.fld fa103_1 rfl ?_
      refine R.gT rfl rfl ?_
      refine R.loadB t3 hB6 rfl rfl rfl trivial ?_
      refine R.gT rfl rfl ?_
      refine R.gtr (b := true) rfl rfl (decide_eq_true (by omega)) ?_
      refine R.pickF rfl ?_
      refine R.nil ?_
      refine E.condT rfl ?_
      refine E.seq ?_
      refine E.regionP rfl ?_
      refine R.build build103_0 rfl ?_
      refine R.storeA t103 hB2 rfl rfl rfl rfl (by simp [Value.oneCell']) nofun ?_
      intro w20 hU20 hs20 hN20
      replace hE := hE.own hU20 hb2
      replace hB2 := hN20
      refine R.assign ?_
      refine R.assign ?_
      refine R.assign ?_
      refine R.nil ?_
      refine E.ret ?_
      refine retA3 (.int .i64 0) (.slice none 0 0) (.bool false) t103 hB2 rfl rfl rfl rfl rfl rfl ⟨_, rfl, hE, ?_⟩
      rw [htn]; rfl
    · have hbad : badB b = false := by unfold badB; exact decide_eq_false (by omega)
      refine E.regionP rfl ?_
      refine R.ixA (m := 0) Try.underlying27 t5 rfl rfl (by decide) ?_
      refine R.loadB (i := 0 + 0) (u := .int .u8 ((b.getD 0 0 : Nat) : Int)) t5 hB1 rfl (by rw [gd (by omega)]; simp [hb.1]) rfl trivial ?_
      refine R.neq (b := false) rfl rfl (by rw [decide_eq_true (by omega)]; rfl) ?_
      refine R.move ?_
      refine R.gT rfl rfl ?_
      refine R.move ?_
      refine R.gT rfl rfl ?_
      refine R.fld fa103_0 rfl ?_
      refine R.gT rfl rfl ?_
      refine R.loadB t3 hB6 rfl rfl rfl trivial ?_
      refine R.gT rfl rfl ?_
      refine R.geq (b := false) rfl rfl (decide_eq_false (by omega)) ?_
      refine R.pickF rfl ?_
      refine R.move ?_
      refine R.gT rfl rfl ?_
      refine R.fld fa103_0 rfl ?_
      refine R.gT rfl rfl ?_
      refine R.loadB t3 hB6 rfl rfl rfl trivial ?_
      refine R.gT rfl rfl ?_
      refine R.gtr (b := false) rfl rfl (decide_eq_false (by omega)) ?_
      refine R.pickF rfl ?_
      refine R.move ?_
      refine R.gT rfl rfl ?_
      refine R.move ?_
      refine R.gT rfl rfl ?_
      refine R.move ?_
      refine R.gT rfl rfl ?_
      refine R.lss (b := false) rfl rfl (decide_eq_false (by omega)) ?_
      refine R.pickF rfl ?_
      refine R.move ?_
      refine R.gT rfl rfl ?_
      refine R.move ?_
      refine R.gT rfl rfl ?_
      refine R.gtr (b := false) rfl rfl (decide_eq_false (by omega)) ?_
      refine R.pickF rfl ?_
      refine R.move ?_
      refine R.gT rfl rfl ?_
      refine R.fld fa103_2 rfl ?_
      refine R.gT rfl rfl ?_
      refine R.loadB t3 hB6 rfl rfl rfl trivial ?_
      refine R.gT rfl rfl ?_
      refine R.lss (b := false) rfl rfl (decide_eq_false (by omega)) ?_
      refine R.pickF rfl ?_
      refine R.move ?_
      refine R.gT rfl rfl ?_
      refine R.fld fa103_3 rfl ?_
      refine R.gT rfl rfl ?_
      refine R.loadB t3 hB6 rfl rfl rfl trivial ?_
      refine R.gT rfl rfl ?_
      refine R.lss (b := false) rfl rfl (decide_eq_false (by omega)) ?_
      refine R.pickF rfl ?_
      refine R.move ?_
      refine R.gT rfl rfl ?_
      refine R.fld fa103_3 rfl ?_
      refine R.gT rfl rfl ?_
      refine R.loadB t3 hB6 rfl rfl rfl trivial ?_
      refine R.gT rfl rfl ?_
      refine R.fld fa103_1 rfl ?_
      refine R.gT rfl rfl ?_
      refine R.loadB t3 hB6 rfl rfl rfl trivial ?_
      refine R.gT rfl rfl ?_
      refine R.gtr (b := false) rfl rfl (decide_eq_false (by omega)) ?_
      refine R.pickF rfl ?_
      refine R.nil ?_
      refine E.condF rfl ?_
      refine E.skip ?_
      refine E.seq ?_
      refine E.seq ?_
      have h48 : b.getD 3 0 < 48 ∨ b.getD 3 0 = 48 := by omega
      have hanc : ((b.drop (16 + b.getD 3 0)).take (64 - (16 + b.getD 3 0))).any (fun c => decide (c ≠ 0)) = true ∨ ((b.drop (16 + b.getD 3 0)).take (64 - (16 + b.getD 3 0))).any (fun c => decide (c ≠ 0)) = false := Bool.eq_false_or_eq_true _
      rcases h48 with h48 | h48
      rcases hanc with hany | hany
      · have hdr : b.drop (16 + b.getD 3 0) = (b.drop (16 + b.getD 3 0)).take (64 - (16 + b.getD 3 0)) := (List.take_of_length_le (by simp; omega)).symm
        have htn : takeL b = none := by unfold takeL; rw [if_neg (by rw [hbad]; decide), if_pos (by rw [hdr]; exact hany)]
        refine E.forget [(1, .pointer (some ⟨b1, 0, none⟩)), (2, .pointer (some ⟨b2, 0, none⟩)), (6, .pointer (some ⟨b6, 0, none⟩)), (7, .int .i64 ((b.getD 1 0 : Nat) : Int)), (8, .int .i64 ((b.getD 3 0 : Nat) : Int))] ⟨rfl, rfl, rfl, rfl, rfl, trivial⟩ (fun e => ?_)
        refine E.regionP rfl ?_
        refine R.move ?_
        refine R.addN (m := 16) (n := b.getD 3 0) rfl rfl (by omega) ?_
        refine R.slcA (l := 16 + b.getD 3 0) (r := 64) Try.underlying27 t5 rfl ⟨_, rfl⟩ rfl (by omega) (by decide) (by omega) ?_
        refine R.callE2 ent78 (containsP _ (xs := ((b.drop (16 + b.getD 3 0)).take (64 - (16 + b.getD 3 0)))) (by rw [Nat.zero_add]; exact hB1.sub hb.1 (by omega) (by decide)) (by first | (simp; omega) | decide) hany) rfl rfl nofun ?_
        rintro v77 w13 hx13 rfl
        replace hB1 := hB1.ext hx13
        replace hB2 := hB2.ext hx13
        replace hB6 := hB6.ext hx13
        replace hE := hE.ext hx13
        refine R.nil ?_
        refine E.condT rfl ?_
        refine E.seq ?_
        refine E.regionP rfl ?_
        refine R.build build103_0 rfl ?_
        refine R.storeA t103 hB2 rfl rfl rfl rfl (by simp [Value.oneCell']) nofun ?_
        intro w20 hU20 hs20 hN20
        replace hE := hE.own hU20 hb2
        replace hB2 := hN20
        refine R.assign ?_
        refine R.assign ?_
        refine R.assign ?_
        refine R.nil ?_
        refine E.ret ?_
        refine retA3 (.int .i64 0) (.slice none 0 0) (.bool false) t103 hB2 rfl rfl rfl rfl rfl rfl ⟨_, rfl, hE, ?_⟩
        rw [htn]; rfl
      · have hdr : b.drop (16 + b.getD 3 0) = (b.drop (16 + b.getD 3 0)).take (64 - (16 + b.getD 3 0)) := (List.take_of_length_le (by simp; omega)).symm
        have hts : takeL b = some (headL b, b.getD 1 0, (b.drop 16).take (b.getD 3 0)) := by unfold takeL; rw [if_neg (by rw [hbad]; decide), if_neg (by rw [hdr, hany]; decide)]
        refine E.forget [(1, .pointer (some ⟨b1, 0, none⟩)), (2, .pointer (some ⟨b2, 0, none⟩)), (6, .pointer (some ⟨b6, 0, none⟩)), (7, .int .i64 ((b.getD 1 0 : Nat) : Int)), (8, .int .i64 ((b.getD 3 0 : Nat) : Int))] ⟨rfl, rfl, rfl, rfl, rfl, trivial⟩ (fun e => ?_)
        refine E.regionP rfl ?_
        refine R.move ?_
        refine R.addN (m := 16) (n := b.getD 3 0) rfl rfl (by omega) ?_
        refine R.slcA (l := 16 + b.getD 3 0) (r := 64) Try.underlying27 t5 rfl ⟨_, rfl⟩ rfl (by omega) (by decide) (by omega) ?_
        refine R.callE2 ent78 (containsP _ (xs := ((b.drop (16 + b.getD 3 0)).take (64 - (16 + b.getD 3 0)))) (by rw [Nat.zero_add]; exact hB1.sub hb.1 (by omega) (by decide)) (by first | (simp; omega) | decide) hany) rfl rfl nofun ?_
        rintro v77 w14 hx14 rfl
        replace hB1 := hB1.ext hx14
        replace hB2 := hB2.ext hx14
        replace hB6 := hB6.ext hx14
        replace hE := hE.ext hx14
        refine R.nil ?_
        refine E.condF rfl ?_
        refine E.skip ?_
        refine E.seq ?_
        refine E.regionW (fun c x => x < w14.heap.size ∧ (c = false → x ≠ b2)) []  mixed rfl (by kernel_rfl) ?_
        intro w15 hx15 hh15
        replace hB1 := hB1.ext hx15
        replace hB2 := hB2.ext hx15
        replace hB6 := hB6.ext hx15
        replace hE := hE.ext hx15
        have hEs : Ext w15 w15 := Upd.refl _
        have hS0 := hx15.size
        have hSB : ∀ b, b < w15.heap.size → b < w14.heap.size ∧ (true = false → (fun x => x ≠ b2) b) := fun b hb => ⟨by rw [hh15] at hb; exact hb, nofun⟩
        have hSA : ∀ b, b < w15.heap.size → (fun x => x ≠ b2) b → b < w14.heap.size ∧ (false = false → (fun x => x ≠ b2) b) := fun b hb h => ⟨by rw [hh15] at hb; exact hb, fun _ => h⟩
        have hB1s := hB1
        have hB2s := hB2
        have hB6s := hB6
        refine R.loadA t103 hB6 rfl rfl rfl (hSA b6 hB6s.lt ((fun h => ne2_6 h.symm))) ?_
        refine R.move ?_
        refine R.move ?_
        refine R.addN (m := 16) (n := b.getD 3 0) rfl rfl (by omega) ?_
        refine R.slcA (l := 16) (r := 16 + b.getD 3 0) Try.underlying27 t5 rfl ⟨_, rfl⟩ ⟨_, rfl⟩ (by omega) (by omega) (by decide) ?_
        refine R.callE1 ent53 (clone_ _ (xs := (b.drop 16).take (16 + b.getD 3 0 - 16)) (by rw [Nat.zero_add]; exact hB1.sub hb.1 (by omega) (by omega)) (by simp; omega)) rfl (fun _ _ hb => Nat.lt_of_lt_of_le hb.1 (Nat.le_trans hS0 hEs.size)) ?_
        rintro v84 w16 hx16 ⟨hS84, hf84⟩
        replace hf84 := hf84.mono hE.size
        replace hB1 := hB1.ext hx16
        replace hB2 := hB2.ext hx16
        replace hB6 := hB6.ext hx16
        replace hE := hE.ext hx16
        replace hEs := hEs.ext hx16
        refine R.storeA t103 hB2 rfl rfl rfl rfl (by simp [Value.oneCell']) (fun _ h => h.2 rfl rfl) ?_
        intro w20 hU20 hs20 hN20
        replace hS84 := hS84.upT hU20 hB2 (by decide)
        replace hE := hE.own hU20 hb2
        replace hB2 := hN20
        refine R.assign ?_
        refine R.assign ?_
        refine R.assign ?_
        refine R.nil ?_
        refine E.ret ?_
        refine retA3 (.int .i64 ((b.getD 1 0 : Nat) : Int)) v84 (.bool true) t103 hB2 rfl rfl rfl rfl rfl rfl ⟨_, rfl, hE, ?_⟩
        rw [hts]
        rw [Nat.add_sub_cancel_left] at hS84
        exact ⟨v84, rfl, hS84, hf84⟩
      · have hdr : b.drop (16 + b.getD 3 0) = [] := List.drop_of_length_le (by omega)
        have hany : (([]) : List Nat).any (fun c => decide (c ≠ 0)) = false := rfl
        have hts : takeL b = some (headL b, b.getD 1 0, (b.drop 16).take (b.getD 3 0)) := by unfold takeL; rw [if_neg (by rw [hbad]; decide), if_neg (by rw [hdr, hany]; decide)]
        refine E.forget [(1, .pointer (some ⟨b1, 0, none⟩)), (2, .pointer (some ⟨b2, 0, none⟩)), (6, .pointer (some ⟨b6, 0, none⟩)), (7, .int .i64 ((b.getD 1 0 : Nat) : Int)), (8, .int .i64 ((b.getD 3 0 : Nat) : Int))] ⟨rfl, rfl, rfl, rfl, rfl, trivial⟩ (fun e => ?_)
        refine E.regionP rfl ?_
        refine R.move ?_
        refine R.addN (m := 16) (n := b.getD 3 0) rfl rfl (by omega) ?_
        refine R.slcA0 Try.underlying27 t5 rfl (by show Value.int _ _ = _; congr 1; omega) ?_
        refine R.callE2 ent78 (containsP _ (xs := []) (U8s.empty _ _) (by first | (simp; omega) | decide) hany) rfl rfl nofun ?_
        rintro v77 w17 hx17 rfl
        replace hB1 := hB1.ext hx17
        replace hB2 := hB2.ext hx17
        replace hB6 := hB6.ext hx17
        replace hE := hE.ext hx17
        refine R.nil ?_
        refine E.condF rfl ?_
        refine E.skip ?_
        refine E.seq ?_
        refine E.regionW (fun c x => x < w17.heap.size ∧ (c = false → x ≠ b2)) []  mixed rfl (by kernel_rfl) ?_
        intro w18 hx18 hh18
        replace hB1 := hB1.ext hx18
        replace hB2 := hB2.ext hx18
        replace hB6 := hB6.ext hx18
        replace hE := hE.ext hx18
        have hEs : Ext w18 w18 := Upd.refl _
        have hS0 := hx18.size
        have hSB : ∀ b, b < w18.heap.size → b < w17.heap.size ∧ (true = false → (fun x => x ≠ b2) b) := fun b hb => ⟨by rw [hh18] at hb; exact hb, nofun⟩
        have hSA : ∀ b, b < w18.heap.size → (fun x => x ≠ b2) b → b < w17.heap.size ∧ (false = false → (fun x => x ≠ b2) b) := fun b hb h => ⟨by rw [hh18] at hb; exact hb, fun _ => h⟩
        have hB1s := hB1
        have hB2s := hB2
        have hB6s := hB6
        refine R.loadA t103 hB6 rfl rfl rfl (hSA b6 hB6s.lt ((fun h => ne2_6 h.symm))) ?_
        refine R.move ?_
        refine R.move ?_
        refine R.addN (m := 16) (n := b.getD 3 0) rfl rfl (by omega) ?_
        refine R.slcA (l := 16) (r := 16 + b.getD 3 0) Try.underlying27 t5 rfl ⟨_, rfl⟩ ⟨_, rfl⟩ (by omega) (by omega) (by decide) ?_
        refine R.callE1 ent53 (clone_ _ (xs := (b.drop 16).take (16 + b.getD 3 0 - 16)) (by rw [Nat.zero_add]; exact hB1.sub hb.1 (by omega) (by omega)) (by simp; omega)) rfl (fun _ _ hb => Nat.lt_of_lt_of_le hb.1 (Nat.le_trans hS0 hEs.size)) ?_
        rintro v84 w19 hx19 ⟨hS84, hf84⟩
        replace hf84 := hf84.mono hE.size
        replace hB1 := hB1.ext hx19
        replace hB2 := hB2.ext hx19
        replace hB6 := hB6.ext hx19
        replace hE := hE.ext hx19
        replace hEs := hEs.ext hx19
        refine R.storeA t103 hB2 rfl rfl rfl rfl (by simp [Value.oneCell']) (fun _ h => h.2 rfl rfl) ?_
        intro w20 hU20 hs20 hN20
        replace hS84 := hS84.upT hU20 hB2 (by decide)
        replace hE := hE.own hU20 hb2
        replace hB2 := hN20
        refine R.assign ?_
        refine R.assign ?_
        refine R.assign ?_
        refine R.nil ?_
        refine E.ret ?_
        refine retA3 (.int .i64 ((b.getD 1 0 : Nat) : Int)) v84 (.bool true) t103 hB2 rfl rfl rfl rfl rfl rfl ⟨_, rfl, hE, ?_⟩
        rw [hts]
        rw [Nat.add_sub_cancel_left] at hS84
        exact ⟨v84, rfl, hS84, hf84⟩
end Go.Proofs.Ytlplogplicgfiaa
