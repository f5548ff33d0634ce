/- Index, Clone, marks -/
import Derived.Test.YtfdmndkoiheebaaA2
import Derived.Test.YtfdmndkoiheebaaMaps
import Derived.Laws.Cover3
namespace Go.Proofs.Ytfdmndkoiheebaa
open Go Go.RowKit


/-- The first place of b; -1 if there is none. -/
def indexL (xs : List Int) (b : Int) : Int := if b ∈ xs then (xs.idxOf b : Int) else -1
theorem indexL_hit {xs : List Int} {b : Int} {k : Nat} (hk : k < xs.length) (h : b = xs[k]) (hn : b ∉ xs.take k) : indexL xs b = k := by
  have hm : b ∈ xs := h ▸ List.getElem_mem hk
  have e1 : xs.idxOf b = k := by
    have h1 := List.take_append_drop k xs
    rw [← h1, List.idxOf_append, if_neg hn, List.drop_eq_getElem_cons hk, ← h, List.idxOf_cons_self]
    simp; omega
  simp [indexL, hm, e1]
theorem indexL_miss {xs : List Int} {b : Int} (hn : b ∉ xs) : indexL xs b = -1 := by simp [indexL, hn]

theorem sIndex (w : World) {v : Value} {xs : List Int} {b : Int} (h : Ints w v xs) (hl : xs.length < 1000000000) :
    Calls Try.prog 61 #[v, .int .i64 b] w (Ret fun r w' => Ext w w' ∧ r = .int .i64 (indexL xs b)) := by
  refine calls_E (args := [v, .int .i64 b]) 19 Try.func61 rfl rfl (by simp) ?_
  have hE : Ext w w := Upd.refl w
  refine E.seq ?_
  refine E.regionP rfl ?_  -- region 0
  refine R.assign ?_  -- 4 := assign ('const', ('int', ('i64',), 0))
  refine R.nil ?_
  refine E.seq ?_
  refine E.seq ?_
  refine E.regionP rfl ?_  -- region 1
  refine R.move ?_  -- 6 := move ('tmp', 0)
  refine R.len Try.underlying35 h rfl ?_  -- 7 := call {'callee': ('builtin', ('len',)), 'args': [('tmp', 6)], 'argTypes': [35]}
  refine R.move ?_  -- 8 := move ('const', ('int', ('i64',), 0))
  refine R.nil ?_
  refine E.block ?_  -- block 0
  refine E.loop (fun n e wr => ∃ k : Nat, n = xs.length - k ∧ k ≤ xs.length ∧ b ∉ xs.take k ∧ Ext w wr ∧ Has e [(0, v), (1, .int .i64 b), (7, .int .i64 xs.length), (8, .int .i64 k)]) (xs.length) ?_ ?_
  · exact ⟨0, rfl, Nat.zero_le _, by simp, hE, rfl, rfl, rfl, rfl, trivial⟩
  · rintro n e wr ⟨k, rfl, hk, hn, hE, hH⟩
    obtain ⟨e, rfl⟩ := hH.ex
    clear hH
    refine E.seq ?_
    refine E.regionP rfl ?_  -- region 2
    refine R.lss rfl rfl rfl ?_  -- 9 := binOp ('lss',) 3 ('tmp', 8) ('tmp', 7) 3
    refine R.nil ?_
    refine E.seq ?_
    refine E.cond rfl (fun hc9 => ?_) (fun hc9 => ?_)  -- cond t9
    · replace hc9 := dT hc9
      refine E.skip ?_
      refine E.seq ?_
      refine E.block ?_  -- block 1
      refine E.seq ?_
      refine E.regionP rfl ?_  -- region 3
      refine R.move ?_  -- 10 := move ('tmp', 8)
      refine R.assign ?_  -- 5 := assign ('tmp', 10)
      refine R.nil ?_
      refine E.seq ?_
      refine E.regionP rfl ?_  -- region 4
      refine R.move ?_  -- 11 := move ('tmp', 1)
      refine R.move ?_  -- 12 := move ('tmp', 0)
      refine R.move ?_  -- 13 := move ('tmp', 5)
      refine R.ix Try.underlying35 t3 (by decide) h rfl rfl (by omega) ?_  -- 14 := indexAddr 35 ('tmp', 12) ('tmp', 13)
      refine R.ld t3 (h.ext hE) rfl (int_at (by omega)) rfl (fun _ _ => trivial) ?_  -- 15 := load 3 ('tmp', 14)
      refine R.eql rfl rfl rfl ?_  -- 16 := binOp ('eql',) 3 ('tmp', 11) ('tmp', 15) 3
      refine R.nil ?_
      refine E.cond rfl (fun hc16 => ?_) (fun hc16 => ?_)  -- cond t16
      · replace hc16 := dT hc16
        refine E.seq ?_
        refine E.regionP rfl ?_  -- region 5
        refine R.move ?_  -- 17 := move ('tmp', 5)
        refine R.assign ?_  -- 4 := assign ('tmp', 17)
        refine R.nil ?_
        refine E.ret ?_
        refine ret1 (.int .i64 k) rfl rfl ⟨_, rfl, hE, ?_⟩  -- return 0 path TT
        rw [indexL_hit (by omega) hc16 hn]
      · replace hc16 := dF hc16
        refine E.skip ?_
        refine E.regionP rfl ?_  -- region 6
        refine R.addN (n := 1) rfl rfl (by omega) ?_  -- 18 := binOp ('add',) 3 ('tmp', 8) ('const', ('int', ('i64',), 1)) 3
        refine R.move ?_  -- 8 := move ('tmp', 18)
        refine R.nil ?_
        refine ⟨xs.length - (k + 1), by omega, k + 1, rfl, by omega, ?_, hE, rfl, rfl, rfl, rfl, trivial⟩  -- round end 0 path TF
        show b ∉ xs.take (k + 1)
        rw [List.take_succ_eq_append_getElem (by omega), List.mem_append]
        rintro (h1 | h1)
        · exact hn h1
        · simp at h1; exact hc16 h1
    · replace hc9 := dF hc9
      refine E.exit ?_  -- exit 0
      refine E.seq ?_
      refine E.regionP rfl ?_  -- region 7
      refine R.assign ?_  -- 4 := assign ('const', ('int', ('i64',), -1))
      refine R.nil ?_
      refine E.ret ?_
      refine ret1 (.int .i64 (-1)) rfl rfl ⟨_, rfl, hE, ?_⟩  -- return 1 path F
      obtain rfl : k = xs.length := by omega
      rw [List.take_length] at hn
      rw [indexL_miss hn]


/-- The blocks of v are new. -/
def Fresh (w : World) (v : Value) : Prop := ∀ b, vblk v = some b → w.heap.size ≤ b
theorem Fresh.nil (w : World) : Fresh w (.slice none 0 0) := fun b hb => by simp [vblk] at hb
theorem Fresh.mono {w w' : World} {v : Value} (h : Fresh w' v) (hs : w.heap.size ≤ w'.heap.size) : Fresh w v := fun b hb => Nat.le_trans hs (h b hb)
theorem R.eqNil {P : Program} {ops : Array Oper} {S : Bool → Nat → Prop} {dr : Bool} {B : List Nat} {F : Env → World → Prop} {rest : List Oper} {e : Env} {w w0 : World} {d : Tmp} {ty : TypeId} {pos : String} {aft : Array Edge} {t t' el : TypeId} {x : Operand} {k n : Nat} {cs : List Value} {v : Value}
    (hu : P.underlying t = some (.slice el)) (hr : Row w0 k v n cs) (hx : ev e x = v) (h : ∀ b : Bool, (b = true → v = .slice none n (vcap v) ∧ cs = []) → (b = false → (vblk v).isSome = true) → wpR P ops S dr (kind B) F rest (upd e d (.bool b)) w) :
    wpR P ops S dr (kind B) F (⟨some d, .binOp .eql t x (.const (.slice none 0 0)) t', ty, pos, aft, none⟩ :: rest) e w := by
  obtain ⟨a, c, rfl, hc, hl, hj⟩ := hr
  refine R.quiet (.bool a.isNone) rfl (fun w' _ => ?_) (h _ (fun ha => ?_) (fun ha => ?_))
  · have h1 := run_equal_slice_nil (P := P) w' t el a n c hu
    have h2 : ∀ w : World, (eqGuard .eql t x (.const (.slice none 0 0)) (.slice a n c) (.slice none 0 0)).run P w = .ok () w := fun w => by unfold eqGuard; simp
    have h3 : ev e (.const (.slice none 0 0)) = .slice none 0 0 := rfl
    simp [execOp, hx, h3, h2, binOp, h1]
  · simp at ha; subst ha
    refine ⟨rfl, ?_⟩
    cases cs with
    | nil => rfl
    | cons y ys => obtain ⟨p, hp, _⟩ := hj 0 (by simp); cases hp
  · cases a with
    | none => simp at ha
    | some p => rfl

theorem sClone (w : World) {v : Value} {xs : List Int} (h : Ints w v xs) (hl : xs.length < 1000000000) :
    Calls Try.prog 62 #[v] w (Ret fun r w' => Ext w w' ∧ SInts w' r xs ∧ Fresh w r) := by
  refine calls_E (args := [v]) 8 Try.func62 rfl rfl (by simp) ?_
  have hE : Ext w w := Upd.refl w
  refine E.seq ?_
  refine E.regionP rfl ?_  -- region 0
  refine R.assign ?_  -- 2 := assign ('const', ('slice', ('none',), 0, 0))
  refine R.nil ?_
  refine E.seq ?_
  refine E.seq ?_
  refine E.regionP rfl ?_  -- region 1
  refine R.move ?_  -- 3 := move ('tmp', 0)
  refine R.eqNil Try.underlying35 h rfl (fun q4 hq4 hn4 => ?_)  -- 4 := binOp ('eql',) 35 ('tmp', 3) ('const', ('slice', ('none',), 0, 0)) 35
  refine R.nil ?_
  refine E.cond rfl (fun hc4 => ?_) (fun hc4 => ?_)  -- cond t4
  · refine E.seq ?_
    refine E.regionP rfl ?_  -- region 2
    refine R.assign ?_  -- 2 := assign ('const', ('slice', ('none',), 0, 0))
    refine R.nil ?_
    refine E.ret ?_
    refine ret1 (.slice none 0 0) rfl rfl ⟨_, rfl, hE, ?_, Fresh.nil _⟩  -- return 0 path T
    have : xs = [] := by simpa using (hq4 hc4).2
    subst this
    exact Sl.nil _ _ _
  · refine E.skip ?_
    refine E.seq ?_
    refine E.regionP rfl ?_  -- region 3
    refine R.buildSlice [] Try.underlying35 t3 rfl rfl (by simp) (by simp) nofun ?_  -- 5 := buildSlice 35 0 []
    intro b5 w5 hb5 hx5 hB5 hS5
    replace hE := hE.ext hx5
    refine R.move ?_  -- 6 := move ('tmp', 0)
    refine R.append Try.underlying35 Try.underlying35 t3 (by decide) rfl hS5 (h.ext hE) ints_one rfl rfl (by simp; omega) (by simp; omega) nofun ?_  -- 7 := call {'callee': ('builtin', ('append',)), 'args': [('tmp', 5), ('tmp', 6)], 'argTypes': [35, 35]}
    intro v7 w7 hU7 hS7 hd7
    refine R.assign ?_  -- 2 := assign ('tmp', 7)
    refine R.nil ?_
    refine E.ret ?_
    refine ret1 v7 rfl rfl ⟨_, rfl, ?_, ?_, ?_⟩  -- return 1 path F
    · exact hE.trans hU7 (fun b hb hx => by simp [vblk] at hx; omega)
    · simpa [cellsOf] using hS7
    · intro b hb
      rcases hd7 with ⟨h1, _⟩ | ⟨b', h1, h2, _⟩
      · rw [h1] at hb; simp [vblk] at hb; omega
      · rw [h1] at hb; simp at hb; have := hE.size; omega

def markL (k i : Nat) : Int := 1000003 * (k + 7) + i
theorem mark_ (w : World) {k i : Nat} (hk : k < 1000) (hi : i < 1000000) : Calls Try.prog 97 #[.int .i64 k, .int .i64 i] w (Ret fun r w' => Ext w w' ∧ r = .int .i64 (markL k i)) := by
  refine calls_E (args := [.int .i64 k, .int .i64 i]) 10 Try.func97 rfl rfl (by simp) ?_
  have hE : Ext w w := Upd.refl w
  refine E.seq ?_
  refine E.regionP rfl ?_  -- region 0
  refine R.assign ?_  -- 4 := assign ('const', ('int', ('i64',), 0))
  refine R.nil ?_
  refine E.seq ?_
  refine E.regionP rfl ?_  -- region 1
  refine R.move ?_  -- 5 := move ('tmp', 0)
  refine R.addN (n := 7) rfl rfl (by omega) ?_  -- 6 := binOp ('add',) 3 ('tmp', 5) ('const', ('int', ('i64',), 7)) 3
  refine R.mulN (m := 1000003) rfl rfl (by omega) ?_  -- 7 := binOp ('mul',) 3 ('const', ('int', ('i64',), 1000003)) ('tmp', 6) 3
  refine R.move ?_  -- 8 := move ('tmp', 1)
  refine R.addN rfl rfl (by omega) ?_  -- 9 := binOp ('add',) 3 ('tmp', 7) ('tmp', 8) 3
  refine R.assign ?_  -- 4 := assign ('tmp', 9)
  refine R.nil ?_
  refine E.ret ?_
  refine ret1 (.int .i64 ((1000003 * (k + 7) + i : Nat) : Int)) rfl rfl ⟨_, rfl, hE, ?_⟩  -- return 0 path 
  simp [markL]

theorem markWater_ (w : World) {k i : Nat} (hk : k < 1000) (hi : i < 1000000) : Calls Try.prog 91 #[.int .i64 k, .int .i64 i] w (Ret fun r w' => Ext w w' ∧ SInts w' r [markL k i] ∧ Fresh w r) := by
  refine calls_E (args := [.int .i64 k, .int .i64 i]) 9 Try.func91 rfl rfl (by simp) ?_
  have hE : Ext w w := Upd.refl w
  refine E.seq ?_
  refine E.regionP rfl ?_  -- region 0
  refine R.assign ?_  -- 4 := assign ('const', ('slice', ('none',), 0, 0))
  refine R.nil ?_
  refine E.seq ?_
  refine E.regionP rfl ?_  -- region 1
  refine R.move ?_  -- 5 := move ('tmp', 0)
  refine R.move ?_  -- 6 := move ('tmp', 1)
  refine R.callE2 ent97 (mark_ _ hk hi) rfl rfl nofun ?_  -- 7 := call {'callee': ('value', ('func', 97)), 'args': [('tmp', 5), ('tmp', 6)], 'argTypes': [3, 3]}
  rintro v7 w1 hx1 rfl
  replace hE := hE.ext hx1
  refine R.buildSlice [.int .i64 (markL k i)] Try.underlying35 t3 rfl rfl (by simp [Value.cells]) (by simp) nofun ?_  -- 8 := buildSlice 35 1 [('tup', 0, ('tmp', 7))]
  intro b8 w8 hb8 hx8 hB8 hS8
  refine R.assign ?_  -- 4 := assign ('tmp', 8)
  refine R.nil ?_
  refine E.ret ?_
  refine ret1 (.slice (some ⟨b8, 0, none⟩) 1 1) rfl rfl ⟨_, rfl, hE.ext hx8, hS8, ?_⟩  -- return 0 path 
  intro b hb
  simp [vblk] at hb
  have := hE.size
  omega

end Go.Proofs.Ytfdmndkoiheebaa
