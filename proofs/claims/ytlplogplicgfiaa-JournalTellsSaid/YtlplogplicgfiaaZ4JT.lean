import Derived.Test.YtlplogplicgfiaaZ4JS
namespace Go.Proofs.Ytlplogplicgfiaa
open Go Go.RowKit
theorem madeCells_rep {c0 : Value} {k : Nat} (hk : 0 < k) (n : Nat) : madeCells (Array.replicate k c0) n = Array.replicate n c0 := by
  apply Array.ext'; apply List.ext_getElem?; intro j; have hm := Nat.mod_lt j hk; by_cases hj : j < n
  · simp [madeCells, hj, hm]
  · simp [madeCells, hj]
theorem run_mk {P : Program} {w : World} {t el : TypeId} {k by_ : Nat} {g : Bool} {z c0 : Value} {n c : Nat} {kl kc : IntKind} (hu : P.underlying t = some (.slice el)) (hk : Ty P el k by_ g z) (hk0 : 0 < k) (hz : z.cells = Array.replicate k c0) (hnc : n ≤ c) (hb : by_ * c ≤ 281474976710656) (hc : c ≤ 9223372036854775807) :
    (Instr.makeSlice t (.int kl n) (.int kc c)).run P w = .ok (.slice (some ⟨w.heap.size, 0, none⟩) n c) (w.alloc (.cells (Array.replicate (c * k) c0) el)) := by
  obtain ⟨i, hi, hz0, hz1, hz2⟩ := info_parts hk.info; have hb2 : ((by_ * c : Nat) : Int) ≤ 281474976710656 := by omega
  rw [Int.natCast_mul] at hb2; have hrun := run_make (P := P) w t el i z hu hi hz0 kl kc n c (by omega) (by omega) (by rw [hz2]; exact hb2) (by omega); rw [hz, hz1, madeCells_rep hk0] at hrun; simpa only [Int.toNat_natCast] using hrun
theorem Sl.made {w : World} {el b k n c : Nat} {c0 : Value} (hB : Blk w b el (Array.replicate (c * k) c0)) (hnc : n ≤ c) : Sl w el k (.slice (some ⟨b, 0, none⟩) n c) n (List.replicate (n * k) c0) :=
  ⟨_, _, rfl, hnc, by simp, .inr ⟨_, 0, _, rfl, hB, by simp, fun j hj => by
    simp at hj; have h2 : n * k ≤ c * k := Nat.mul_le_mul_right _ hnc; have : j < c * k := by omega
    simp [this, hj]⟩⟩
theorem SU8s.made {w : World} {b n c : Nat} (h : Sl w 5 1 (.slice (some ⟨b, 0, none⟩) n c) n (List.replicate (n * 1) (.int .u8 0))) : SU8s w (.slice (some ⟨b, 0, none⟩) n c) (List.replicate n 0) := by
  show Sl _ _ _ _ (List.replicate n 0).length (u8s (List.replicate n 0)); simpa [u8s] using h
theorem Fresh.blk {w : World} {b n c : Nat} (h : w.heap.size ≤ b) : Fresh w (.slice (some ⟨b, 0, none⟩) n c) := fun x e => by have e1 : b = x := Option.some.inj e; omega
namespace R
variable {P : Program} {ops : Array Oper} {S : Bool → Nat → Prop} {dr : Bool} {B : List Nat} {F : Env → World → Prop} {rest : List Oper} {e : Env} {w : World}
variable {d : Tmp} {od : Option Tmp} {ty : TypeId} {pos : String} {aft : Array Edge}
theorem makeK {t el : TypeId} {k by_ : Nat} {g : Bool} {z c0 : Value} {x y : Operand} {n c : Nat} {kl kc : IntKind} (hu : P.underlying t = some (.slice el)) (hk : Ty P el k by_ g z) (hk0 : 0 < k) (hz : z.cells = Array.replicate k c0) (hx : ev e x = .int kl n) (hy : ev e y = .int kc c) (hnc : n ≤ c) (hb : by_ * c ≤ 281474976710656) (hc : c ≤ 9223372036854775807)
    (hag : dr = true → ∀ c b, S c b → b < w.heap.size)
    (h : ∀ b w', w.heap.size ≤ b → Ext w w' → Sl w' el k (.slice (some ⟨b, 0, none⟩) n c) n (List.replicate (n * k) c0) → wpR P ops S dr (kind B) F rest (upd e d (.slice (some ⟨b, 0, none⟩) n c)) w') :
    wpR P ops S dr (kind B) F (⟨some d, .makeSlice t x y, ty, pos, aft, none⟩ :: rest) e w := by
  have hE : Ext w (w.alloc (.cells (Array.replicate (c * k) c0) el)) := Upd.push _ _; have hB : Blk (w.alloc (.cells (Array.replicate (c * k) c0) el)) w.heap.size el (Array.replicate (c * k) c0) := Blk.push _ _ _; refine run2 (w' := w.alloc (.cells (Array.replicate (c * k) c0) el)) (v := .slice (some ⟨w.heap.size, 0, none⟩) n c) rfl ?_ (fun hd x => hE.agree fun b hb => ⟨hag hd x b hb, id⟩)
    (h _ _ (Nat.le_refl _) hE (Sl.made hB hnc))
  simp [execOp, hx, hy, run_mk hu hk hk0 hz hnc hb hc]
theorem convS {x : Operand} {t : TypeId} {b n : Nat} {xs : List Nat} (hs : P.underlying t = some (.slice 5)) (hel : P.underlying 5 = some (.int .u8)) (hx : ev e x = .slice (some ⟨b, 0, none⟩) n n) (hS : SU8s w (.slice (some ⟨b, 0, none⟩) n n) xs) (hag : dr = true → ¬ S false b)
    (h : ∀ w', Upd (one b) w w' → RU8 w' (.slice (some ⟨b, 0, none⟩) n n) xs → wpR P ops S dr (kind B) F rest (upd e d (.slice (some ⟨b, 0, none⟩) n n)) w') : wpR P ops S dr (kind B) F (⟨some d, .convert t t x, ty, pos, aft, none⟩ :: rest) e w := by
  obtain ⟨a, cap, hv, hcap, hl, hcase⟩ := hS; cases hv; rcases hcase with ⟨h1, _⟩ | ⟨b', off, cur, h1, hB, hfit, hj⟩
  · cases h1
  cases h1; have hoth : ∀ c, c ≠ b → (w.freeze ⟨b, cur.size, none⟩ 1).heap[c]? = w.heap[c]? := fun c hc => by
    unfold World.freeze; rw [if_neg (by decide)]; show (w.heap.modify b _)[c]? = _; rw [Array.getElem?_modify, if_neg (fun e => hc e.symm)]
  obtain ⟨c2, q2⟩ : ∃ fr, (w.freeze ⟨b, cur.size, none⟩ 1).heap[b]? = some (.cells cur 5 fr) := by
    unfold World.freeze; rw [if_neg (by decide)]; refine ⟨(cur.size, cur.size + 1), ?_⟩; show (w.heap.modify b _)[b]? = _; rw [Array.getElem?_modify]; unfold Blk at hB; simp [hB]
  have hu : Upd (one b) w (w.freeze ⟨b, cur.size, none⟩ 1) := by
    refine ⟨?_, ?_, ?_, ?_, fun c _ hn => hoth c hn⟩
    all_goals (unfold World.freeze; rw [if_neg (by decide)]; try simp)
  have hrun : (execOp (ev e) ⟨some d, .convert t t x, ty, pos, aft, none⟩).run P w = .ok (.value (.slice (some ⟨b, 0, none⟩) xs.length xs.length)) (w.freeze ⟨b, cur.size, none⟩ 1) := by
    have hsh : w.shape? b = some (5, cur.size) := by unfold Blk at hB; simp [World.shape?, hB]
    simp [execOp, convert, underlying, hs, hel, hx, markStringish, hsh]
  refine run3 (by simp [kind]) hrun (fun hd c hc => hoth c (fun e => hag hd (e ▸ hc))) (h _ hu ⟨⟨_, _, rfl, hcap, hl, fun k hk => ⟨_, rfl, ?_⟩⟩, fun c e => ?_⟩)
  · rw [add_none]; have := hj k hk; simp only [Nat.zero_add] at this ⊢; simp only [World.cell?, q2]; simpa using this
  · have e1 : b = c := Option.some.inj e; subst e1; exact ⟨_, _, q2⟩
end R
namespace G
variable {P : Program} {ops : Array Oper} {N0 : Nat} {S : Bool → Nat → Prop} {B C : List Nat} {F : Env → World → Prop} {rest : List Oper} {K : Nat → Prop} {e : Env} {w : World}
variable {o : Oper} {d : Tmp} {od : Option Tmp} {ty : TypeId} {pos : String} {aft : Array Edge}
theorem make {t el : TypeId} {k by_ : Nat} {g : Bool} {z c0 : Value} {x y : Operand} {n c : Nat} {kl kc : IntKind} (hu : P.underlying t = some (.slice el)) (hk : Ty P el k by_ g z) (hk0 : 0 < k) (hz : z.cells = Array.replicate k c0) (hx : ev e x = .int kl n) (hy : ev e y = .int kc c) (hnc : n ≤ c) (hb : by_ * c ≤ 281474976710656) (hc : c ≤ 9223372036854775807)
    (h : ∀ w1 b (K' : Nat → Prop), Ext w w1 → N0 ≤ b → ¬ K b → (∀ x, K x → K' x) → K' b → Sl w1 el k (.slice (some ⟨b, 0, none⟩) n c) n (List.replicate (n * k) c0) → wpG P ops N0 S (kindF B C) F rest K' (upd e d (.slice (some ⟨b, 0, none⟩) n c)) w1) :
    wpG P ops N0 S (kindF B C) F (⟨some d, .makeSlice t x y, ty, pos, aft, none⟩ :: rest) K e w := by
  simp only [wpG, wantedE, if_true]; refine .inl ⟨rfl, .cells (Array.replicate (c * k) c0) el, fun b => .slice (some ⟨b, 0, none⟩) n c, fun w1 => ?_, fun w1 b u hb hkb ho => h w1 b _ u hb hkb (fun _ => .inl) (.inr rfl) (Sl.made ho hnc)⟩; simp [execOp, hx, hy, run_mk hu hk hk0 hz hnc hb hc]
end G
theorem z27 : (Value.agg (Array.replicate 64 (.int .u8 0))).cells = Array.replicate 64 (.int .u8 0) := rfl
theorem z4 : (Value.bool false).cells = Array.replicate 1 (.bool false) := rfl
theorem z5 : (Value.int .u8 0).cells = Array.replicate 1 (.int .u8 0) := rfl
theorem blocksC_rep : ∀ n : Nat, blocksC (List.replicate n zeroB) = List.replicate (n * 64) (.int .u8 0)
  | 0 => rfl
  | n + 1 => by
    rw [List.replicate_succ, blocksC_cons, blocksC_rep n, show (n + 1) * 64 = 64 + n * 64 by omega, ← List.replicate_append_replicate]
    congr 1
def newDk (n : Nat) : Dk := ⟨List.replicate (2 * n) zeroB, List.replicate (2 * n) false, -1, false⟩
def NRes (w w' : World) (r : Value) (n : Int) : Prop :=
  if n < 4 ∨ 1000 < n then r = .tuple #[.pointer none, .int .i64 ((2 : Nat) : Int)]
  else ∃ b vb vd, r = .tuple #[.pointer (some ⟨b, 0, none⟩), .int .i64 ((0 : Nat) : Int)] ∧ DM w' b vb vd (newDk n.toNat) ∧ ∀ x, DB b vb vd x → w.heap.size ≤ x
theorem openP (w : World) {b900 : Nat} {vb vd : Value} {d d' : Dk} {e : Nat} {o : Option Jn} (hD : DM w b900 vb vd d) (hpw0 : d.pw ≤ 9223372036854775807) (hp : openL d = (d', e, o)) :
    Calls Try.prog 39 #[.pointer (some ⟨b900, 0, none⟩)] w (Ret fun r w' => Upd (DB b900 vb vd) w w' ∧ DM w' b900 vb vd d' ∧ ORes w w' r b900 (e, o)) := by
  have h := open_ w hD hpw0; rw [hp] at h; exact h
theorem append_ (w : World) {b901 b900 : Nat} {v vl vb vd : Value} {us : List Value} {j : Jn} {d : Dk} {rec : List Nat} {first : Int} (hD : DM w b900 vb vd d) (hJ : JM w b901 b900 vl us j) (hr : RU8 w v rec) (hrb : ∀ x ∈ rec, x < 256) (hO : JOK j) (hat : ∀ i, i < j.live.length → (j.live.getD i Rc0).at_ ≤ 1000000) (hrl : rec.length ≤ 100000) (hpw : d.pw ≤ 9223372036854775807) (hf : first ≤ 9223372036854775807) :
    Calls Try.prog 36 #[.pointer (some ⟨b901, 0, none⟩), v, .int .i64 first] w (Ret fun r w' => Upd (AB b901 b900 vb vd) w w' ∧ DM w' b900 vb vd (appendL d j rec first).1 ∧ (∃ vl us, JM w' b901 b900 vl us (appendL d j rec first).2.1) ∧ r = .tuple #[.int .i64 (((appendL d j rec first).2.2.1 : Nat) : Int), .int .i64 (((appendL d j rec first).2.2.2 : Nat) : Int)]) := by
  rcases (show first < 0 ∨ 0 ≤ first by omega) with h | h
  · exact appendNeg w hD hJ hr hrb hO hat hrl hpw h
  · obtain ⟨f, rfl⟩ : ∃ f : Nat, first = (f : Int) := ⟨first.toNat, by omega⟩
    exact appendPos w hD hJ hr hrb hO hat hrl hpw (by omega)
theorem appendP (w : World) {b901 b900 : Nat} {v vl vb vd : Value} {us : List Value} {j j' : Jn} {d d' : Dk} {rec : List Nat} {first : Int} {n e : Nat} (hD : DM w b900 vb vd d) (hJ : JM w b901 b900 vl us j) (hr : RU8 w v rec) (hrb : ∀ x ∈ rec, x < 256) (hO : JOK j) (hat : ∀ i, i < j.live.length → (j.live.getD i Rc0).at_ ≤ 1000000) (hrl : rec.length ≤ 100000) (hpw : d.pw ≤ 9223372036854775807) (hf : first ≤ 9223372036854775807) (hp : appendL d j rec first = (d', j', n, e)) :
    Calls Try.prog 36 #[.pointer (some ⟨b901, 0, none⟩), v, .int .i64 first] w (Ret fun r w' => Upd (AB b901 b900 vb vd) w w' ∧ DM w' b900 vb vd d' ∧ ∃ vl us, JM w' b901 b900 vl us j' ∧ r = .tuple #[.int .i64 (n : Int), .int .i64 (e : Int)]) := by
  have h := append_ w hD hJ hr hrb hO hat hrl hpw hf; rw [hp] at h; exact h.mono (fun en w' ⟨v, e1, q1, q2, ⟨vl, us, q3⟩, q4⟩ => ⟨v, e1, q1, q2, vl, us, q3, q4⟩)
theorem JM.upA {w w' : World} {pj pj' pd p : Nat} {vl vb vd : Value} {us : List Value} {j : Jn} {d : Dk} (h : JM w pj pd vl us j) (u : Upd (AB pj' p vb vd) w w') (hD : DM w p vb vd d) (hne : ¬ JB pj vl us pj') : JM w' pj pd vl us j :=
  h.up u (fun x e => by
    rcases e with rfl | e
    · exact hne
    · rcases e with rfl | e | e
      · exact h.notT hD.blk (by decide)
      · obtain ⟨c, q⟩ := hD.bls.blk e; exact h.notT q (by decide)
      · obtain ⟨c, q⟩ := hD.bds.blk e; exact h.notT q (by decide))
theorem Blk.upA {w w' : World} {pj p pd b : Nat} {vb vd vl : Value} {us : List Value} {j : Jn} {d : Dk} {ty : TypeId} {cs : Array Value} (h : Blk w b ty cs) (u : Upd (AB pj p vb vd) w w') (hD : DM w p vb vd d) (hJ : JM w pj pd vl us j) (hne : 25 ≠ ty ∧ 27 ≠ ty ∧ 4 ≠ ty ∧ 86 ≠ ty) : Blk w' b ty cs := by
  refine h.up u (fun e => ?_); rcases e with rfl | e
  · exact hJ.blk.ne h hne.2.2.2 rfl
  · exact hD.notDB h ⟨hne.1, hne.2.1, hne.2.2.1⟩ e
theorem Sl.upA {w w' : World} {pj p pd k n : Nat} {vb vd vl v : Value} {us : List Value} {j : Jn} {d : Dk} {ty : TypeId} {cs : List Value} (h : Sl w ty k v n cs) (u : Upd (AB pj p vb vd) w w') (hD : DM w p vb vd d) (hJ : JM w pj pd vl us j) (hne : 25 ≠ ty ∧ 27 ≠ ty ∧ 4 ≠ ty ∧ 86 ≠ ty) : Sl w' ty k v n cs := by
  refine h.up u (fun b hb e => ?_); obtain ⟨c, q⟩ := h.blk hb; rcases e with rfl | e
  · exact hJ.blk.ne q hne.2.2.2 rfl
  · exact hD.notDB q ⟨hne.1, hne.2.1, hne.2.2.1⟩ e
theorem bld25_0_1_2 {x0 x1 x2 : Value} (hx0 : x0.oneCell' = true) (hx1 : x1.oneCell' = true) (hx2 : x2.oneCell' = true) (w : World) : (Instr.build 25 #[(0, x0), (1, x1), (2, x2)]).run Try.prog w = .ok (.agg #[x0, x1, x2, (.bool false)]) w := by
  simp [Instr.build, t25.zero, underlying, Try.underlying25, Instr.fill, cells_agg, t3.sizeOf, t22.sizeOf, t23.sizeOf, cells_one hx0, cells_one hx1, cells_one hx2]
theorem newDisk_ (w : World) {n : Int} : Calls Try.prog 20 #[.int .i64 n] w (Ret fun r w' => Ext w w' ∧ NRes w w' r n) := by
  rcases (show n < 4 ∨ 4 ≤ n by omega) with hn | hn
  rotate_left
  · obtain ⟨m, rfl⟩ : ∃ m : Nat, n = (m : Int) := ⟨n.toNat, by omega⟩; refine calls_E (args := [N6 m]) 18 Try.func20 rfl rfl (by simp) ?_; have hE : Ext w w := Upd.refl w; refine E.seq ?_; refine E.regionP rfl ?_; (iterate 2 refine R.assign ?_); refine R.nil ?_; (iterate 2 refine E.seq ?_); refine E.regionP rfl ?_; refine R.move ?_; refine R.lss (b := decide (((m : Int)) < (((4 : Nat) : Int)))) rfl rfl rfl ?_; refine R.move ?_; have hg6 := Bool.eq_false_or_eq_true (decide (((m : Int)) < (((4 : Nat) : Int)))); rcases hg6 with hg6 | hg6
    · have hg6q := hg6; replace hg6 := dT hg6; (iterate 2 refine R.gF rfl (cb6 hg6q) rfl ?_); refine R.pickT (cb6 hg6q) ?_; refine R.nil ?_; refine E.condT rfl ?_; refine E.seq ?_; refine E.regionP rfl ?_; (iterate 2 refine R.assign ?_); refine R.nil ?_; refine E.ret ?_; refine ret2 (.pointer none) (N6 2) rfl rfl rfl ⟨_, rfl, ?_⟩; refine ⟨hE, ?_⟩; unfold NRes; rw [if_pos (by omega)]
    · have hg6q := hg6; replace hg6 := dF hg6; refine R.gT rfl (cb6 hg6q) ?_; refine R.move ?_; refine R.gT rfl (cb6 hg6q) ?_; refine R.gtr (b := decide ((((1000 : Nat) : Int)) < ((m : Int)))) rfl rfl rfl ?_; refine R.pickF (cb6 hg6q) ?_; refine R.nil ?_; refine E.cond (b := decide ((((1000 : Nat) : Int)) < ((m : Int)))) rfl (fun hc9 => ?_) (fun hc9 => ?_)
      · replace hc9 := dT hc9; refine E.seq ?_; refine E.regionP rfl ?_; (iterate 2 refine R.assign ?_); refine R.nil ?_; refine E.ret ?_; refine ret2 (.pointer none) (N6 2) rfl rfl rfl ⟨_, rfl, ?_⟩; refine ⟨hE, ?_⟩; unfold NRes; rw [if_pos (by omega)]
      · replace hc9 := dF hc9; refine E.skip ?_; refine E.seq ?_; have hW0 := hE.size; refine E.regionF (fun c x => x < w.heap.size ∧ (c = false → True)) [] [] mixed rfl (by kernel_rfl) (fun _ _ h => h.1) ?_; intro w1 hx1 hh1; replace hE := hE.ext hx1; have hEs : Ext w1 w1 := Upd.refl _; have hS0 := hx1.size; have hSB := SB6 (E := fun x => True) hh1; have hSA := SA6 (E := fun x => True) hh1; have hSO : ∀ b, b < w.heap.size → b < w.heap.size ∧ (false = false → (fun x => True) b) := fun b hb => hSA b (Nat.lt_of_lt_of_le hb hE.size) (trivial); refine G.q rfl (Nat.le_of_ble_eq_true rfl) ?_; refine R.move ?_; refine R.nil ?_; refine G.q rfl (Nat.le_of_ble_eq_true rfl) ?_; refine R.mulN (m := 2) (n := m) rfl rfl (by omega) ?_; refine R.nil ?_; refine G.make (n := 2 * m) (c := 2 * m) Try.underlying22 t27 (by decide) z27 rfl rfl (Nat.le_refl _) (by omega) (by omega) ?_; intro w2 b12 K2 hx2 hb12 hn12 hK2 hk12 hS12; have hn012 := hb12; replace hb12 := Nat.le_trans hW0 hb12; replace hE := hE.ext hx2; replace hEs := hEs.ext hx2; refine G.q rfl (Nat.le_of_ble_eq_true rfl) ?_; refine R.move ?_; refine R.nil ?_; refine G.q rfl (Nat.le_of_ble_eq_true rfl) ?_; refine R.mulN (m := 2) (n := m) rfl rfl (by omega) ?_; refine R.nil ?_; refine G.make (n := 2 * m) (c := 2 * m) Try.underlying23 t4 (by decide) z4 rfl rfl (Nat.le_refl _) (by omega) (by omega) ?_; intro w3 b15 K3 hx3 hb15 hn15 hK3 hk15 hS15; replace hk12 := hK3 _ hk12; have hn015 := hb15; replace hb15 := Nat.le_trans hW0 hb15; replace hS12 := hS12.ext hx3; replace hE := hE.ext hx3; replace hEs := hEs.ext hx3; refine G.q rfl (Nat.le_of_ble_eq_true rfl) ?_; refine R.build (bld25_0_1_2 hS12.one hS15.one rfl) rfl ?_; refine R.nil ?_; refine G.l rfl rfl (.inl rfl) (Nat.le_of_ble_eq_true rfl) ?_; intro w4 hx4; replace hS12 := hS12.ext hx4; replace hS15 := hS15.ext hx4; replace hE := hE.ext hx4; replace hEs := hEs.ext hx4; refine R.box rfl (fun _ _ _ hb => G.S1_lt (fun _ _ h => h.1) (Nat.le_trans hS0 hEs.size) hb) ?_; intro b17 w5 hb17 hx5 hB17; replace hb17 := Nat.le_trans hE.size hb17; replace hS12 := hS12.ext hx5; replace hS15 := hS15.ext hx5; replace hE := hE.ext hx5; replace hEs := hEs.ext hx5; replace hB17 : Blk _ b17 25 #[.slice (some ⟨b12, 0, none⟩) (2 * m) (2 * m), .slice (some ⟨b15, 0, none⟩) (2 * m) (2 * m), .int .i64 (-1), .bool (false)] := hB17; refine R.nil ⟨hx5.size, ?_⟩; intro K4 hK4 hN4; replace hk12 := hK4 _ hk12; replace hk15 := hK4 _ hk15; refine G.q rfl (Nat.le_of_ble_eq_true rfl) ?_; refine R.assign ?_; refine R.nil ?_; refine G.q rfl (Nat.le_of_ble_eq_true rfl) ?_; refine R.assign ?_; refine R.nil ?_; refine G.nil ?_; refine E.ret ?_; refine ret2 (P6 b17) (N6 0) rfl rfl rfl ⟨_, rfl, ?_⟩; refine ⟨hE, ?_⟩; unfold NRes; rw [if_neg (by omega), Int.toNat_natCast]; refine ⟨b17, _, _, rfl, ⟨hB17, ?_, ?_, fun b hb => (List.mem_replicate.1 hb).2 ▸ zeroB_ok⟩, ?_⟩
        · show Sl _ 27 64 _ (List.replicate (2 * m) zeroB).length (blocksC (List.replicate (2 * m) zeroB)); rw [blocksC_rep, List.length_replicate]; exact hS12
        · show Sl _ 4 1 _ (List.replicate (2 * m) false).length (bools (List.replicate (2 * m) false)); rw [List.length_replicate]; simpa [bools] using hS15
        · rintro x (rfl | e | e)
          · exact hb17
          · have e1 : b12 = x := Option.some.inj e; omega
          · have e1 : b15 = x := Option.some.inj e; omega
  · refine calls_E (args := [.int .i64 (n)]) 18 Try.func20 rfl rfl (by simp) ?_; have hE : Ext w w := Upd.refl w; refine E.seq ?_; refine E.regionP rfl ?_; (iterate 2 refine R.assign ?_); refine R.nil ?_; (iterate 2 refine E.seq ?_); refine E.regionP rfl ?_; refine R.move ?_; refine R.lss (b := true) rfl rfl (decide_eq_true (by omega)) ?_; refine R.move ?_; (iterate 2 refine R.gF rfl rfl rfl ?_); refine R.pickT rfl ?_; refine R.nil ?_; refine E.condT rfl ?_; refine E.seq ?_; refine E.regionP rfl ?_; (iterate 2 refine R.assign ?_); refine R.nil ?_; refine E.ret ?_; refine ret2 (.pointer none) (N6 2) rfl rfl rfl ⟨_, rfl, ?_⟩; refine ⟨hE, ?_⟩; unfold NRes; rw [if_pos (by omega)]
theorem roomB_ (w : World) {b901 b900 : Nat} {vl vb vd : Value} {us : List Value} {j : Jn} {d : Dk} {a b c : Int} (hD : DM w b900 vb vd d) (hJ : JM w b901 b900 vl us j) (hO : JOK j) :
    Calls Try.prog 42 #[.pointer (some ⟨b901, 0, none⟩), .int .i64 a, .int .i64 b, .int .i64 c] w (Ret fun r w' => Ext w w' ∧ r = .bool (decide ((firstN j.live : Int) = a) && decide ((lastN j.live : Int) = b) && decide (roomI d.n j.live = c))) := by
  refine calls_E (args := [P6 b901, .int .i64 (a), .int .i64 (b), .int .i64 (c)]) 25 Try.func42 rfl rfl (by simp) ?_; have hE : Ext w w := Upd.refl w; refine E.seq ?_; refine E.regionP rfl ?_; refine R.assign ?_; refine R.nil ?_; refine E.seq ?_; refine E.regionP rfl ?_; refine R.move ?_; refine R.callE1 ent40 (first_ _ hJ hO.len) rfl nofun ?_; rintro v10 w1 hx1 rfl; replace hD := hD.ext hx1; replace hJ := hJ.ext hx1; replace hE := hE.ext hx1; refine R.move ?_; refine R.eql (b := decide (((((firstN j.live) : Nat) : Int)) = (a))) rfl rfl rfl ?_; refine R.move ?_; have hg13 := Bool.eq_false_or_eq_true (decide (((((firstN j.live) : Nat) : Int)) = (a))); rcases hg13 with hg13 | hg13
  · have hg13q := hg13; replace hg13 := dT hg13; refine R.gT rfl (cb6 hg13q) ?_; refine R.move ?_; refine R.gT rfl (cb6 hg13q) ?_; refine R.callE1 ent37 (lastN_ _ hJ hO.len) rfl nofun ?_; rintro v15 w2 hx2 rfl; replace hD := hD.ext hx2; replace hJ := hJ.ext hx2; replace hE := hE.ext hx2; refine R.gT rfl (cb6 hg13q) ?_; refine R.move ?_; refine R.gT rfl (cb6 hg13q) ?_; refine R.eql (b := decide (((((lastN j.live) : Nat) : Int)) = (b))) rfl rfl rfl ?_; refine R.pickT (cb6 hg13q) ?_; refine R.move ?_; have hg19 := Bool.eq_false_or_eq_true (decide (((((lastN j.live) : Nat) : Int)) = (b))); rcases hg19 with hg19 | hg19
    · have hg19q := hg19; replace hg19 := dT hg19; refine R.gT rfl (cb6 hg19q) ?_; refine R.move ?_; refine R.gT rfl (cb6 hg19q) ?_; refine R.callE1 ent35 (room_ _ hD hJ hO) rfl nofun ?_; rintro v21 w3 hx3 rfl; replace hD := hD.ext hx3; replace hJ := hJ.ext hx3; replace hE := hE.ext hx3; refine R.gT rfl (cb6 hg19q) ?_; refine R.move ?_; refine R.gT rfl (cb6 hg19q) ?_; refine R.eql (b := decide (((roomI d.n j.live)) = (c))) rfl rfl rfl ?_; refine R.pickT (cb6 hg19q) ?_; refine R.assign ?_; refine R.nil ?_; refine E.ret ?_; refine ret1 (.bool (decide (((roomI d.n j.live)) = (c)))) rfl rfl ⟨_, rfl, ?_⟩; refine ⟨hE, ?_⟩; rw [decide_eq_true hg13, decide_eq_true hg19]; rfl
    · have hg19q := hg19; replace hg19 := dF hg19; (iterate 4 refine R.gF rfl (cb6 hg19q) rfl ?_); refine R.pickF (cb6 hg19q) ?_; refine R.assign ?_; refine R.nil ?_; refine E.ret ?_; refine ret1 (.bool (false)) rfl rfl ⟨_, rfl, ?_⟩; refine ⟨hE, ?_⟩; rw [decide_eq_true hg13, decide_eq_false hg19]; rfl
  · have hg13q := hg13; replace hg13 := dF hg13; (iterate 4 refine R.gF rfl (cb6 hg13q) rfl ?_); refine R.pickF (cb6 hg13q) ?_; refine R.move ?_; (iterate 4 refine R.gF rfl rfl rfl ?_); refine R.pickF rfl ?_; refine R.assign ?_; refine R.nil ?_; refine E.ret ?_; refine ret1 (.bool (false)) rfl rfl ⟨_, rfl, ?_⟩; refine ⟨hE, ?_⟩; rw [decide_eq_false hg13]; rfl
end Go.Proofs.Ytlplogplicgfiaa
