import Derived.Test.YtfdmndkoiheebaaZ16Maps
import Derived.Laws.Cover3
namespace Go.Proofs.Ytfdmndkoiheebaa
open Go Go.RowKit
def indexL (xs : List Int) (b : Int) : Int := if b ∈ xs then (xs.idxOf b : Int) else -1
theorem indexL_hit {xs : List Int} {b : Int} {k : Nat} (hk : k < xs.length) (h : b = xs[k]) (hn : b ∉ xs.take k) : indexL xs b = k := by
  have hm : b ∈ xs := h ▸ List.getElem_mem hk
  have e1 : xs.idxOf b = k := by
    have h1 := List.take_append_drop k xs
    rw [← h1, List.idxOf_append, if_neg hn, List.drop_eq_getElem_cons hk, ← h, List.idxOf_cons_self]
    simp; omega
  simp [indexL, hm, e1]
theorem indexL_miss {xs : List Int} {b : Int} (hn : b ∉ xs) : indexL xs b = -1 := by simp [indexL, hn]
theorem sIndex (w : World) {v : Value} {xs : List Int} {b : Int} (h : Ints w v xs) (hl : xs.length < 1000000000) :
    Calls Try.prog 61 #[v, .int .i64 b] w (Ret fun r w' => Ext w w' ∧ r = .int .i64 (indexL xs b)) := by
  refine calls_E (args := [v, .int .i64 b]) 19 Try.func61 rfl rfl (by simp) ?_
  have hE : Ext w w := Upd.refl w
  refine E.seq ?_
  refine E.regionP rfl ?_
  refine R.assign ?_
  refine R.nil ?_
  refine E.seq ?_
  refine E.seq ?_
  refine E.regionP rfl ?_
  refine R.move ?_
  refine R.len Try.underlying35 h rfl ?_
  refine R.move ?_
  refine R.nil ?_
  refine E.block ?_
  refine E.loop (fun n e wr => ∃ k : Nat, n = xs.length - k ∧ k ≤ xs.length ∧ b ∉ xs.take k ∧ Ext w wr ∧ Has e [(0, v), (1, .int .i64 b), (7, .int .i64 xs.length), (8, .int .i64 k)]) (xs.length) ?_ ?_
  · exact ⟨0, rfl, Nat.zero_le _, by simp, hE, rfl, rfl, rfl, rfl, trivial⟩
  · rintro n e wr ⟨k, rfl, hk, hn, hE, hH⟩
    obtain ⟨e, rfl⟩ := hH.ex
    clear hH
    refine E.seq ?_
    refine E.regionP rfl ?_
    refine R.lss rfl rfl rfl ?_
    refine R.nil ?_
    refine E.seq ?_
    refine E.cond rfl (fun hc9 => ?_) (fun hc9 => ?_)
    · replace hc9 := dT hc9
      refine E.skip ?_
      refine E.seq ?_
      refine E.block ?_
      refine E.seq ?_
      refine E.regionP rfl ?_
      refine R.move ?_
      refine R.assign ?_
      refine R.nil ?_
      refine E.seq ?_
      refine E.regionP rfl ?_
      refine R.move ?_
      refine R.move ?_
      refine R.move ?_
      refine R.ix Try.underlying35 t3 (by decide) h rfl rfl (by omega) ?_
      refine R.ld t3 (h.ext hE) rfl (int_at (by omega)) rfl (fun _ _ => trivial) ?_
      refine R.eql rfl rfl rfl ?_
      refine R.nil ?_
      refine E.cond rfl (fun hc16 => ?_) (fun hc16 => ?_)
      · replace hc16 := dT hc16
        refine E.seq ?_
        refine E.regionP rfl ?_
        refine R.move ?_
        refine R.assign ?_
        refine R.nil ?_
        refine E.ret ?_
        refine ret1 (.int .i64 k) rfl rfl ⟨_, rfl, hE, ?_⟩
        rw [indexL_hit (by omega) hc16 hn]
      · replace hc16 := dF hc16
        refine E.skip ?_
        refine E.regionP rfl ?_
        refine R.addN (n := 1) rfl rfl (by omega) ?_
        refine R.move ?_
        refine R.nil ?_
        refine ⟨xs.length - (k + 1), by omega, k + 1, rfl, by omega, ?_, hE, rfl, rfl, rfl, rfl, trivial⟩
        show b ∉ xs.take (k + 1)
        rw [List.take_succ_eq_append_getElem (by omega), List.mem_append]
        rintro (h1 | h1)
        · exact hn h1
        · simp at h1; exact hc16 h1
    · replace hc9 := dF hc9
      refine E.exit ?_
      refine E.seq ?_
      refine E.regionP rfl ?_
      refine R.assign ?_
      refine R.nil ?_
      refine E.ret ?_
      refine ret1 (.int .i64 (-1)) rfl rfl ⟨_, rfl, hE, ?_⟩
      obtain rfl : k = xs.length := by omega
      rw [List.take_length] at hn
      rw [indexL_miss hn]
def Fresh (w : World) (v : Value) : Prop := ∀ b, vblk v = some b → w.heap.size ≤ b
theorem Fresh.nil (w : World) : Fresh w (.slice none 0 0) := fun b hb => by simp [vblk] at hb
theorem Fresh.mono {w w' : World} {v : Value} (h : Fresh w' v) (hs : w.heap.size ≤ w'.heap.size) : Fresh w v := fun b hb => Nat.le_trans hs (h b hb)
theorem R.eqNil {P : Program} {ops : Array Oper} {S : Bool → Nat → Prop} {dr : Bool} {B : List Nat} {F : Env → World → Prop} {rest : List Oper} {e : Env} {w w0 : World} {d : Tmp} {ty : TypeId} {pos : String} {aft : Array Edge} {t t' el : TypeId} {x : Operand} {k n : Nat} {cs : List Value} {v : Value}
    (hu : P.underlying t = some (.slice el)) (hr : Row w0 k v n cs) (hx : ev e x = v) (h : ∀ b : Bool, (b = true → v = .slice none n (vcap v) ∧ cs = []) → (b = false → (vblk v).isSome = true) → wpR P ops S dr (kind B) F rest (upd e d (.bool b)) w) :
    wpR P ops S dr (kind B) F (⟨some d, .binOp .eql t x (.const (.slice none 0 0)) t', ty, pos, aft, none⟩ :: rest) e w := by
  obtain ⟨a, c, rfl, hc, hl, hj⟩ := hr
  refine R.quiet (.bool a.isNone) rfl (fun w' _ => ?_) (h _ (fun ha => ?_) (fun ha => ?_))
  · have h1 := run_equal_slice_nil (P := P) w' t el a n c hu
    have h2 : ∀ w : World, (eqGuard .eql t x (.const (.slice none 0 0)) (.slice a n c) (.slice none 0 0)).run P w = .ok () w := fun w => by unfold eqGuard; simp
    have h3 : ev e (.const (.slice none 0 0)) = .slice none 0 0 := rfl
    simp [execOp, hx, h3, h2, binOp, h1]
  · simp at ha; subst ha
    refine ⟨rfl, ?_⟩
    cases cs with
    | nil => rfl
    | cons y ys => obtain ⟨p, hp, _⟩ := hj 0 (by simp); cases hp
  · cases a with
    | none => simp at ha
    | some p => rfl
theorem sClone (w : World) {v : Value} {xs : List Int} (h : Ints w v xs) (hl : xs.length < 1000000000) :
    Calls Try.prog 62 #[v] w (Ret fun r w' => Ext w w' ∧ SInts w' r xs ∧ Fresh w r) := by
  refine calls_E (args := [v]) 8 Try.func62 rfl rfl (by simp) ?_
  have hE : Ext w w := Upd.refl w
  refine E.seq ?_
  refine E.regionP rfl ?_
  refine R.assign ?_
  refine R.nil ?_
  refine E.seq ?_
  refine E.seq ?_
  refine E.regionP rfl ?_
  refine R.move ?_
  refine R.eqNil Try.underlying35 h rfl (fun q4 hq4 hn4 => ?_)
  refine R.nil ?_
  refine E.cond rfl (fun hc4 => ?_) (fun hc4 => ?_)
  · refine E.seq ?_
    refine E.regionP rfl ?_
    refine R.assign ?_
    refine R.nil ?_
    refine E.ret ?_
    refine ret1 (.slice none 0 0) rfl rfl ⟨_, rfl, hE, ?_, Fresh.nil _⟩
    have : xs = [] := by simpa using (hq4 hc4).2
    subst this
    exact Sl.nil _ _ _
  · refine E.skip ?_
    refine E.seq ?_
    refine E.regionP rfl ?_
    refine R.buildSlice [] Try.underlying35 t3 rfl rfl (by simp) (by simp) nofun ?_
    intro b5 w5 hb5 hx5 hB5 hS5
    replace hE := hE.ext hx5
    refine R.move ?_
    refine R.append Try.underlying35 Try.underlying35 t3 (by decide) rfl hS5 (h.ext hE) ints_one rfl rfl (by simp; omega) (by simp; omega) nofun ?_
    intro v7 w7 hU7 hS7 hd7
    refine R.assign ?_
    refine R.nil ?_
    refine E.ret ?_
    refine ret1 v7 rfl rfl ⟨_, rfl, ?_, ?_, ?_⟩
    · exact hE.trans hU7 (fun b hb hx => by simp [vblk] at hx; omega)
    · simpa [cellsOf] using hS7
    · intro b hb
      rcases hd7 with ⟨h1, _⟩ | ⟨b', h1, h2, _⟩
      · rw [h1] at hb; simp [vblk] at hb; omega
      · rw [h1] at hb; simp at hb; have := hE.size; omega
def markL (k i : Nat) : Int := 1000003 * (k + 7) + i
theorem mark_ (w : World) {k i : Nat} (hk : k < 1000) (hi : i < 1000000) : Calls Try.prog 97 #[.int .i64 k, .int .i64 i] w (Ret fun r w' => Ext w w' ∧ r = .int .i64 (markL k i)) := by
  refine calls_E (args := [.int .i64 k, .int .i64 i]) 10 Try.func97 rfl rfl (by simp) ?_
  have hE : Ext w w := Upd.refl w
  refine E.seq ?_
  refine E.regionP rfl ?_
  refine R.assign ?_
  refine R.nil ?_
  refine E.seq ?_
  refine E.regionP rfl ?_
  refine R.move ?_
  refine R.addN (n := 7) rfl rfl (by omega) ?_
  refine R.mulN (m := 1000003) rfl rfl (by omega) ?_
  refine R.move ?_
  refine R.addN rfl rfl (by omega) ?_
  refine R.assign ?_
  refine R.nil ?_
  refine E.ret ?_
  refine ret1 (.int .i64 ((1000003 * (k + 7) + i : Nat) : Int)) rfl rfl ⟨_, rfl, hE, ?_⟩
  simp [markL]
theorem markWater_ (w : World) {k i : Nat} (hk : k < 1000) (hi : i < 1000000) : Calls Try.prog 91 #[.int .i64 k, .int .i64 i] w (Ret fun r w' => Ext w w' ∧ SInts w' r [markL k i] ∧ Fresh w r) := by
  refine calls_E (args := [.int .i64 k, .int .i64 i]) 9 Try.func91 rfl rfl (by simp) ?_
  have hE : Ext w w := Upd.refl w
  refine E.seq ?_
  refine E.regionP rfl ?_
  refine R.assign ?_
  refine R.nil ?_
  refine E.seq ?_
  refine E.regionP rfl ?_
  refine R.move ?_
  refine R.move ?_
  refine R.callE2 ent97 (mark_ _ hk hi) rfl rfl nofun ?_
  rintro v7 w1 hx1 rfl
  replace hE := hE.ext hx1
  refine R.buildSlice [.int .i64 (markL k i)] Try.underlying35 t3 rfl rfl (by simp [Value.cells]) (by simp) nofun ?_
  intro b8 w8 hb8 hx8 hB8 hS8
  refine R.assign ?_
  refine R.nil ?_
  refine E.ret ?_
  refine ret1 (.slice (some ⟨b8, 0, none⟩) 1 1) rfl rfl ⟨_, rfl, hE.ext hx8, hS8, ?_⟩
  intro b hb
  simp [vblk] at hb
  have := hE.size
  omega
end Go.Proofs.Ytfdmndkoiheebaa

namespace Go.Proofs.Ytfdmndkoiheebaa
open Go Go.RowKit
theorem Upd.app {X : Nat → Prop} {w0 w w' : World} {v : Value} (h : Upd X w0 w) (u : Upd (fun b => vblk v = some b) w w') (hf : Fresh w0 v) : Upd X w0 w' := h.trans u fun c hc hx => by
  have := hf c hx
  omega
theorem Fresh.app {X : Nat → Prop} {w0 w w' : World} {v v' : Value} {n : Nat} (hE : Upd X w0 w) (hf : Fresh w0 v) (hd : (vblk v' = vblk v ∧ n ≤ vcap v ∧ vcap v' = vcap v) ∨ (∃ b, vblk v' = some b ∧ w.heap.size ≤ b ∧ Ext w w')) : Fresh w0 v' := by
  intro b hb
  rcases hd with ⟨h1, _⟩ | ⟨b', h1, h2, _⟩
  · exact hf b (h1 ▸ hb)
  · rw [h1] at hb
    have := hE.size
    simp at hb
    omega
def marks (i : Nat) : List Int := (List.range i).map (markL 1)
theorem marks_succ (i : Nat) : marks (i + 1) = marks i ++ [markL 1 i] := by simp [marks, List.range_succ]
theorem marks_length (i : Nat) : (marks i).length = i := by simp [marks]
def Lent (w : World) (v : Value) (xs : List Int) : Prop := ∃ v0, SInts w v0 (xs ++ marks 12) ∧ v = cut 1 v0 0 xs.length
theorem Lent.ext {w w' : World} {v : Value} {xs : List Int} (h : Lent w v xs) (u : Ext w w') : Lent w' v xs := by
  obtain ⟨v0, h, e⟩ := h; exact ⟨v0, h.ext u, e⟩
theorem Lent.sl {w : World} {v : Value} {xs : List Int} (h : Lent w v xs) : SInts w v xs := by
  obtain ⟨v0, h, rfl⟩ := h
  have := h.cut (l := 0) (r := xs.length) (Nat.zero_le _) (by simp)
  simpa [ints] using this
theorem Lent.ints {w : World} {v : Value} {xs : List Int} (h : Lent w v xs) : Ints w v xs := h.sl.row
theorem lentInts (w : World) {v : Value} {xs : List Int} (h : Ints w v xs) (hl : xs.length < 1000000) :
    Calls Try.prog 81 #[v] w (Ret fun r w' => Ext w w' ∧ Lent w' r xs ∧ Fresh w r) := by
  refine calls_E (args := [v]) 25 Try.func81 rfl rfl (by simp) ?_
  have hE : Ext w w := Upd.refl w
  refine E.seq ?_
  refine E.regionP rfl ?_
  refine R.assign ?_
  refine R.nil ?_
  refine E.seq ?_
  refine E.regionP rfl ?_
  refine R.move ?_
  refine R.len Try.underlying35 h rfl ?_
  refine R.addN (n := 12) rfl rfl (by omega) ?_
  refine R.make (n := 0) (c := xs.length + 12) Try.underlying35 t3 rfl rfl rfl (by omega) (by omega) (by omega) nofun ?_
  intro b8 w8 hb8 hx8 hB8 hS8
  replace hE := hE.ext hx8
  refine R.assign ?_
  refine R.nil ?_
  refine E.seq ?_
  refine E.regionP rfl ?_
  refine R.move ?_
  refine R.move ?_
  refine R.append Try.underlying35 Try.underlying35 t3 (by decide) rfl hS8 (h.ext hE) ints_one rfl rfl (by simp; omega) (by simp; omega) nofun ?_
  intro v11 w11 hU11 hS11 hd11
  have hf8 : Fresh w (.slice (some ⟨b8, 0, none⟩) 0 (xs.length + 12)) := fun b hb => by simp [vblk] at hb; omega
  have hf11 := Fresh.app hE hf8 hd11
  replace hE := hE.app hU11 hf8
  simp only [List.replicate_zero, List.nil_append, Nat.zero_add] at hS11
  refine R.assign ?_
  refine R.nil ?_
  refine E.seq ?_
  refine E.seq ?_
  refine E.regionP rfl ?_
  refine R.assign ?_
  refine R.nil ?_
  refine E.block ?_
  refine E.loop (fun n e wr => ∃ i : Nat, ∃ vv : Value, n = 12 - i ∧ i ≤ 12 ∧ Ext w wr ∧ Sl wr 3 1 vv (xs.length + i) (ints (xs ++ marks i)) ∧ Fresh w vv ∧ Has e [(0, v), (3, vv), (4, .int .i64 i)]) (12) ?_ ?_
  · exact ⟨0, v11, rfl, Nat.zero_le _, hE, by simpa [marks] using hS11, hf11, rfl, rfl, rfl, trivial⟩
  · rintro n e wr ⟨i, vv, rfl, hi, hE, hS, hf, hH⟩
    obtain ⟨e, rfl⟩ := hH.ex
    clear hH
    refine E.seq ?_
    refine E.seq ?_
    refine E.regionP rfl ?_
    refine R.move ?_
    refine R.lss rfl rfl rfl ?_
    refine R.nil ?_
    refine E.cond rfl (fun hc13 => ?_) (fun hc13 => ?_)
    · replace hc13 := dT hc13
      refine E.skip ?_
      refine E.seq ?_
      refine E.block ?_
      refine E.regionP rfl ?_
      refine R.move ?_
      refine R.move ?_
      refine R.callE2 ent97 (mark_ _ (k := 1) (by decide) (by omega)) rfl rfl nofun ?_
      rintro v18 w1 hx1 rfl
      replace hS := hS.ext hx1
      replace hE := hE.ext hx1
      refine R.buildSlice [.int .i64 (markL 1 i)] Try.underlying35 t3 rfl rfl (by simp [Value.cells]) (by simp) nofun ?_
      intro b19 w2 hb19 hx2 hB19 hS19
      replace hb19 := Nat.le_trans hE.size hb19
      replace hS := hS.ext hx2
      replace hE := hE.ext hx2
      refine R.append Try.underlying35 Try.underlying35 t3 (by decide) rfl hS hS19.row (by simp [cellsOf, Value.cells, Value.oneCell']) rfl rfl (by simp; omega) (by simp; omega) nofun ?_
      intro v20 w20 hU20 hS20 hd20
      have hf20 := Fresh.app hE hf hd20
      replace hE := hE.app hU20 hf
      refine R.assign ?_
      refine R.nil ?_
      refine E.regionP rfl ?_
      refine R.move ?_
      refine R.addN (n := 1) rfl rfl (by omega) ?_
      refine R.assign ?_
      refine R.nil ?_
      refine ⟨12 - (i + 1), by omega, i + 1, v20, rfl, by omega, hE, ?_, hf20, rfl, rfl, rfl, trivial⟩
      rw [marks_succ]
      simpa [cellsOf, Value.cells, Nat.add_assoc] using hS20
    · replace hc13 := dF hc13
      refine E.exit ?_
      refine E.seq ?_
      refine E.regionP rfl ?_
      refine R.move ?_
      refine R.move ?_
      refine R.len Try.underlying35 h rfl ?_
      obtain ⟨a0, c0, hv0, hc0, _⟩ := id hS
      refine R.slc (l := 0) (r := xs.length) Try.underlying35 t3 rfl hv0 rfl ⟨_, rfl⟩ (Nat.zero_le _) (by omega) ?_
      refine R.assign ?_
      refine R.nil ?_
      refine E.ret ?_
      refine ret1 (cut 1 vv 0 xs.length) rfl rfl ⟨_, rfl, hE, ⟨vv, ?_, rfl⟩, fun b hb => hf b (vblk_cut hb)⟩
      obtain rfl : i = 12 := by omega
      show Sl _ 3 1 vv (xs ++ marks 12).length _
      rw [List.length_append, marks_length]
      exact hS
theorem Sl.upS {w w' : World} {ty ty' : TypeId} {k k' : Nat} {v x : Value} {n m : Nat} {cs ds : List Value} (h : Sl w ty k v n cs) (u : Upd (fun b => vblk x = some b) w w') (hx : Sl w ty' k' x m ds) (hne : ty ≠ ty') : Sl w' ty k v n cs := by
  obtain ⟨a, cap, rfl, hc, hl, h⟩ := h
  refine ⟨a, cap, rfl, hc, hl, ?_⟩
  rcases h with h | ⟨b, off, cur, rfl, hb, h⟩
  · exact .inl h
  · refine .inr ⟨b, off, cur, rfl, hb.up u (fun e => ?_), h⟩
    obtain ⟨a', cap', rfl, _, _, h'⟩ := hx
    rcases h' with ⟨rfl, _⟩ | ⟨b', off', cur', rfl, hb', _⟩
    · simp [vblk] at e
    · simp [vblk] at e; subst e; exact hne (hb.inj hb').2
theorem Lent.upS {w w' : World} {ty' : TypeId} {k' : Nat} {v x : Value} {m : Nat} {xs : List Int} {ds : List Value} (h : Lent w v xs) (u : Upd (fun b => vblk x = some b) w w') (hx : Sl w ty' k' x m ds) (hne : 3 ≠ ty') : Lent w' v xs := by
  obtain ⟨v0, h, e⟩ := h; exact ⟨v0, h.upS u hx hne, e⟩
def LentRows (w : World) (us : List Value) (xss : List (List Int)) : Prop := us.length = xss.length ∧ ∀ i (h : i < xss.length), ∃ u, us[i]? = some u ∧ Lent w u xss[i]
def MarkRows (w : World) (ms : List Value) (k : Nat) : Prop := ms.length = k ∧ ∀ i, i < k → ∃ u, ms[i]? = some u ∧ SInts w u [markL 1 i]
theorem LentRows.ext {w w' : World} {us : List Value} {xss : List (List Int)} (h : LentRows w us xss) (u : Ext w w') : LentRows w' us xss := ⟨h.1, fun i hi => let ⟨x, a, b⟩ := h.2 i hi; ⟨x, a, b.ext u⟩⟩
theorem MarkRows.ext {w w' : World} {ms : List Value} {k : Nat} (h : MarkRows w ms k) (u : Ext w w') : MarkRows w' ms k := ⟨h.1, fun i hi => let ⟨x, a, b⟩ := h.2 i hi; ⟨x, a, b.ext u⟩⟩
theorem LentRows.upS {w w' : World} {x : Value} {m : Nat} {ds : List Value} {us : List Value} {xss : List (List Int)} (h : LentRows w us xss) (u : Upd (fun b => vblk x = some b) w w') (hx : Sl w 35 1 x m ds) : LentRows w' us xss := ⟨h.1, fun i hi => let ⟨y, a, b⟩ := h.2 i hi; ⟨y, a, b.upS u hx (by decide)⟩⟩
theorem MarkRows.upS {w w' : World} {x : Value} {m : Nat} {ds : List Value} {ms : List Value} {k : Nat} (h : MarkRows w ms k) (u : Upd (fun b => vblk x = some b) w w') (hx : Sl w 35 1 x m ds) : MarkRows w' ms k := ⟨h.1, fun i hi => let ⟨y, a, b⟩ := h.2 i hi; ⟨y, a, b.upS u hx (by decide)⟩⟩
theorem LentRows.snoc {w : World} {us : List Value} {xss : List (List Int)} {k : Nat} (hk : k < xss.length) (h : LentRows w us (xss.take k)) {u : Value} (hu : Lent w u xss[k]) : LentRows w (us ++ [u]) (xss.take (k + 1)) := by
  obtain ⟨h1, h2⟩ := h
  simp only [List.length_take] at h1 h2
  refine ⟨by simp; omega, fun i hi => ?_⟩
  simp only [List.length_take] at hi
  by_cases hik : i < k
  · obtain ⟨x, a, b⟩ := h2 i (by omega)
    refine ⟨x, by rw [List.getElem?_append_left (by omega)]; exact a, ?_⟩
    simpa using b
  · obtain rfl : i = k := by omega
    exact ⟨u, by rw [List.getElem?_append_right (by omega)]; simp [h1, Nat.min_eq_left (Nat.le_of_lt hk)], by simpa using hu⟩
theorem MarkRows.snoc {w : World} {ms : List Value} {k : Nat} (h : MarkRows w ms k) {u : Value} (hu : SInts w u [markL 1 k]) : MarkRows w (ms ++ [u]) (k + 1) := by
  obtain ⟨h1, h2⟩ := h
  refine ⟨by simp; omega, fun i hi => ?_⟩
  by_cases hik : i < k
  · obtain ⟨x, a, b⟩ := h2 i hik
    exact ⟨x, by rw [List.getElem?_append_left (by omega)]; exact a, b⟩
  · obtain rfl : i = k := by omega
    exact ⟨u, by rw [List.getElem?_append_right (by omega)]; simp [h1], hu⟩
structure LentM (w : World) (v : Value) (xss : List (List Int)) : Prop where
  ex : ∃ v0 us ms, Sl w 35 1 v0 (xss.length + 12) (us ++ ms) ∧ v = cut 1 v0 0 xss.length ∧ LentRows w us xss ∧ MarkRows w ms 12
theorem LentM.ext {w w' : World} {v : Value} {xss : List (List Int)} (h : LentM w v xss) (u : Ext w w') : LentM w' v xss := by
  obtain ⟨v0, us, ms, h1, h2, h3, h4⟩ := h; exact ⟨v0, us, ms, h1.ext u, h2, h3.ext u, h4.ext u⟩
theorem LentM.one {w : World} {v : Value} {xss : List (List Int)} (h : LentM w v xss) : v.oneCell' = true := by
  obtain ⟨v0, us, ms, h1, rfl, _⟩ := h
  obtain ⟨a, c, rfl, _⟩ := h1
  rfl
theorem LentM.upT {w w' : World} {v : Value} {xss : List (List Int)} {b : Nat} {ty : TypeId} {cs : Array Value} (h : LentM w v xss) (u : Upd (Ytfdmndkoiheebaa.one b) w w') (hb : Blk w b ty cs) (hne : 35 ≠ ty ∧ 3 ≠ ty) : LentM w' v xss := by
  obtain ⟨v0, us, ms, h1, h2, h3, h4⟩ := h
  exact ⟨v0, us, ms, h1.upT u hb hne.1, h2, ⟨h3.1, fun i hi => let ⟨x, a, y, c, d⟩ := h3.2 i hi; ⟨x, a, y, c.upT u hb hne.2, d⟩⟩, ⟨h4.1, fun i hi => let ⟨x, a, c⟩ := h4.2 i hi; ⟨x, a, c.upT u hb hne.2⟩⟩⟩
theorem LentM.mat {w : World} {v : Value} {xss : List (List Int)} (h : LentM w v xss) : ∃ us, Mat w v us xss := by
  obtain ⟨v0, us, ms, h1, rfl, h3, h4⟩ := h
  have h5 := h1.row.cut (l := 0) (r := xss.length) (Nat.zero_le _) (by omega)
  have h6 := h3.1
  refine ⟨us, ⟨?_, fun i hi => let ⟨x, a, b⟩ := h3.2 i hi; ⟨x, a, b.ints⟩⟩⟩
  simpa [← h6] using h5
end Go.Proofs.Ytfdmndkoiheebaa
