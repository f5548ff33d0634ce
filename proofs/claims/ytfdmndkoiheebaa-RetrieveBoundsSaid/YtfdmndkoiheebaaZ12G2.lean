import Derived.Test.YtfdmndkoiheebaaZ12Yard2
import Derived.Laws.StructEq
namespace Go.Proofs.Ytfdmndkoiheebaa
open Go Go.RowKit
theorem shiftL_len {xss : List (List Int)} {H : Nat} {f t : Int} : (shiftL xss H f t).1.length = xss.length := by
  unfold shiftL
  split
  · rfl
  · split
    · rfl
    · split
      · rfl
      · split
        · rfl
        · simp
theorem shiftL_ok {xss : List (List Int)} {H : Nat} {f t : Int} (h : (shiftL xss H f t).2 = 0) : ∃ (a b : Nat) (ha : a < xss.length) (hb : b < xss.length) (hl : 0 < xss[a].length), f = a ∧ t = b ∧ a ≠ b ∧ xss[b].length ≠ H ∧
    (shiftL xss H f t).1 = (xss.set b (xss[b] ++ [xss[a][xss[a].length - 1]])).set a xss[a].dropLast := by
  unfold shiftL at *
  split at h
  · simp at h
  · rename_i h1
    rw [if_neg h1]
    split at h
    · simp at h
    · rename_i h2
      rw [if_neg h2]
      have ha : f.toNat < xss.length := by omega
      have hb : t.toNat < xss.length := by omega
      have ga : xss.getD f.toNat [] = xss[f.toNat] := by simp [ha]
      have gb : xss.getD t.toNat [] = xss[t.toNat] := by simp [hb]
      rw [ga] at h ⊢
      rw [gb] at h ⊢
      split at h
      · simp at h
      · rename_i h3
        rw [if_neg h3]
        split at h
        · simp at h
        · rename_i h4
          rw [if_neg h4]
          refine ⟨f.toNat, t.toNat, ha, hb, by omega, by omega, by omega, by omega, h4, ?_⟩
          rw [List.getD_eq_getElem?_getD, List.getElem?_eq_getElem (show xss[f.toNat].length - 1 < xss[f.toNat].length by omega)]
          rfl
theorem shiftL_perm {xss : List (List Int)} {H : Nat} {f t : Int} (h : (shiftL xss H f t).2 = 0) : (shiftL xss H f t).1.flatten.Perm xss.flatten := by
  obtain ⟨a, b, ha, hb, hl, _, _, hab, _, he⟩ := shiftL_ok h
  rw [he]
  have p1 := flatten_set_perm hb xss[a][xss[a].length - 1]
  have hea : (xss.set b (xss[b] ++ [xss[a][xss[a].length - 1]]))[a]'(by simpa using ha) = xss[a] := List.getElem_set_ne (Ne.symm hab) _
  have p2 := flatten_take_perm (xss := xss.set b (xss[b] ++ [xss[a][xss[a].length - 1]])) (i := a) (k := xss[a].length - 1) (by simpa using ha) (by rw [hea]; omega) (by rw [hea]; omega)
  simp only [hea] at p2
  rw [← List.dropLast_eq_take] at p2
  exact (p2.symm.trans p1).cons_inv
theorem RightP.shift {xss : List (List Int)} {H : Nat} {f t : Int} (hR : RightP xss H) (h : (shiftL xss H f t).2 = 0) : RightP (shiftL xss H f t).1 H := by
  have hp := shiftL_perm h
  obtain ⟨a, b, ha, hb, hl, _, _, hab, hn, he⟩ := shiftL_ok h
  obtain ⟨q1, q2, q3, q4, q5, q6, q7⟩ := hR
  refine ⟨q1, q2, by rw [shiftL_len]; exact q3, by rw [shiftL_len]; exact q4, fun xs hx => ?_, fun x hx => q6 x (hp.mem_iff.1 hx), hp.nodup_iff.2 q7⟩
  rw [he] at hx
  rcases List.mem_or_eq_of_mem_set hx with hx | rfl
  · rcases List.mem_or_eq_of_mem_set hx with hx | rfl
    · exact q5 xs hx
    · have := q5 _ (List.getElem_mem hb); simp; omega
  · have := q5 _ (List.getElem_mem ha); simp; omega
theorem RightP.shiftR_ok {xss : List (List Int)} {H : Nat} {f t : Int} (hR : RightP xss H) (h : (shiftL xss H f t).2 = 0) : shiftR xss H f t = ((shiftL xss H f t).1, (H : Int), 0) := by simp [shiftR, hR.b, h]
theorem RightP.shiftR_no {xss : List (List Int)} {H : Nat} {f t : Int} (hR : RightP xss H) (h : (shiftL xss H f t).2 ≠ 0) : shiftR xss H f t = ([], 0, (shiftL xss H f t).2) := by simp [shiftR, hR.b, h]
def playL (H : Nat) : List (List Int) → Nat → List (Int × Int) → List (List Int) × Nat × Int
  | xss, _, [] => (xss, 0, 0)
  | xss, i, m :: ms => if (shiftL xss H m.1 m.2).2 = 0 then playL H (shiftL xss H m.1 m.2).1 (i + 1) ms else ([], i, (shiftL xss H m.1 m.2).2)
theorem Row.blk_at {w : World} {k n j : Nat} {v : Value} {cs : List Value} (h : Row w k v n cs) (hj : j < cs.length) : ∀ b, vblk v = some b → b < w.heap.size := by
  obtain ⟨a, cap, rfl, _, _, h⟩ := h
  obtain ⟨p, rfl, hp⟩ := h j hj
  intro b hb
  simp [vblk] at hb
  subst hb
  have := cell_lt (hp.trans (List.getElem?_eq_getElem hj))
  rwa [add_block] at this
end Go.Proofs.Ytfdmndkoiheebaa

namespace Go.Proofs.Ytfdmndkoiheebaa
open Go Go.RowKit
theorem t97 : Ty Try.prog 97 1 8 false (.map none) := ⟨by kernel_rfl, _, Try.underlying97, rfl⟩
theorem t104 : Ty Try.prog 104 1 8 false (.pointer none) := ⟨by kernel_rfl, _, Try.underlying104, rfl⟩
theorem t108 : Ty Try.prog 108 6 96 true (.agg #[.slice none 0 0, .int .i64 0, .slice none 0 0, .map none, .slice none 0 0, .int .i64 0]) := ⟨by kernel_rfl, _, Try.underlying108, rfl⟩
theorem fa108_0 : Fld Try.prog 108 0 0 := ⟨_, _, 1, Try.underlying108, rfl, rfl, by decide, by kernel_rfl⟩
theorem fa108_1 : Fld Try.prog 108 1 1 := ⟨_, _, 1, Try.underlying108, rfl, rfl, by decide, by kernel_rfl⟩
theorem fa108_2 : Fld Try.prog 108 2 2 := ⟨_, _, 1, Try.underlying108, rfl, rfl, by decide, by kernel_rfl⟩
theorem fa108_3 : Fld Try.prog 108 3 3 := ⟨_, _, 1, Try.underlying108, rfl, rfl, by decide, by kernel_rfl⟩
theorem fa108_4 : Fld Try.prog 108 4 4 := ⟨_, _, 1, Try.underlying108, rfl, rfl, by decide, by kernel_rfl⟩
theorem fa108_5 : Fld Try.prog 108 5 5 := ⟨_, _, 1, Try.underlying108, rfl, rfl, by decide, by kernel_rfl⟩
theorem s35 : (Try.prog.info? 35).map (·.size) = some 1 := by kernel_rfl
theorem s97 : (Try.prog.info? 97).map (·.size) = some 1 := by kernel_rfl
theorem s62 : (Try.prog.info? 62).map (·.size) = some 1 := by kernel_rfl
theorem build108 {h o m : Value} (hh : h.oneCell' = true) (ho : o.oneCell' = true) (hm : m.oneCell' = true) (w : World) : (Instr.build 108 #[(1, h), (2, o), (3, m)]).run Try.prog w = .ok (.agg #[.slice none 0 0, h, o, m, .slice none 0 0, .int .i64 0]) w := by
  simp [Instr.build, t108.zero, underlying, Try.underlying108, sizeOf_run s22, sizeOf_run s3, sizeOf_run s35, sizeOf_run s97, sizeOf_run s62, Instr.fill, cells_agg, cells_one hh, cells_one ho, cells_one hm]
def stepsC (ss : List (Int × Int × Int)) : List Value := ss.flatMap fun s => [.int .i64 s.1, .int .i64 s.2.1, .int .i64 s.2.2]
abbrev Steps (w : World) (v : Value) (ss : List (Int × Int × Int)) : Prop := Row w 3 v ss.length (stepsC ss)
theorem stepsC_cons (s : Int × Int × Int) (ss : List (Int × Int × Int)) : stepsC (s :: ss) = [.int .i64 s.1, .int .i64 s.2.1, .int .i64 s.2.2] ++ stepsC ss := rfl
theorem stepsC_len (ss : List (Int × Int × Int)) : (stepsC ss).length = ss.length * 3 := by
  induction ss with
  | nil => rfl
  | cons s ss ih => rw [stepsC_cons, List.length_append, ih, List.length_cons]; simp; omega
theorem stepsC_snoc (ss : List (Int × Int × Int)) (s : Int × Int × Int) : stepsC (ss ++ [s]) = stepsC ss ++ [.int .i64 s.1, .int .i64 s.2.1, .int .i64 s.2.2] := by simp [stepsC]
theorem steps_take {ss : List (Int × Int × Int)} {i : Nat} (h : i < ss.length) : ((stepsC ss).drop (i * 3)).take 3 = [.int .i64 ss[i].1, .int .i64 ss[i].2.1, .int .i64 ss[i].2.2] := by
  induction ss generalizing i with
  | nil => simp at h
  | cons s ss ih =>
    cases i with
    | zero => simp [stepsC_cons]
    | succ i =>
      have := ih (i := i) (by simpa using h)
      rw [stepsC_cons, show (i + 1) * 3 = 3 + i * 3 by omega, ← List.drop_drop]
      simpa using this
theorem R.ldS {P : Program} {ops : Array Oper} {S : Bool → Nat → Prop} {dr : Bool} {B : List Nat} {F : Env → World → Prop} {rest : List Oper} {e : Env} {w w0 : World} {d : Tmp} {ty : TypeId} {pos : String} {aft : Array Edge} {x : Operand} {t : TypeId} {c : Bool} {by_ i : Nat} {z v : Value} {ss : List (Int × Int × Int)} (hk : Ty P t 3 by_ true z) (hr : Steps w0 v ss) (hE : Ext w0 w) (hi : i < ss.length) (hx : ev e x = elemPtr v (i * 3)) (hc : B.contains d = c) (hS : ∀ b, b < w0.heap.size → S c b)
    (h : wpR P ops S dr (kind B) F rest (upd e d (.agg #[.int .i64 ss[i].1, .int .i64 ss[i].2.1, .int .i64 ss[i].2.2])) w) : wpR P ops S dr (kind B) F (⟨some d, .load t x, ty, pos, aft, none⟩ :: rest) e w :=
  R.loadE hk (by decide) (hr.ext hE) hx (steps_take hi) rfl hc (fun b hb => hS b (hr.blk_at (j := i * 3) (by rw [stepsC_len]; omega) b hb)) h
def RankM (ord : List Int) (M : List (Int × Int)) : Prop := ∀ b, mget M b = if b ∈ ord then some (ord.idxOf b : Int) else none
def Ranks (w : World) (rm : Nat) (ord : List Int) : Prop := ∃ M, MapI w rm M ∧ RankM ord M
theorem Ranks.up {X : Nat → Prop} {w w' : World} {rm : Nat} {ord : List Int} (h : Ranks w rm ord) (u : Upd X w w') (hx : ¬ X rm) : Ranks w' rm ord := by obtain ⟨M, h1, h2⟩ := h; exact ⟨M, h1.up u hx, h2⟩
theorem Ranks.ext {w w' : World} {rm : Nat} {ord : List Int} (h : Ranks w rm ord) (u : Ext w w') : Ranks w' rm ord := h.up u id
theorem Ranks.ne {w : World} {rm b : Nat} {ord : List Int} {ty : TypeId} {cs : Array Value} (h : Ranks w rm ord) (hb : Blk w b ty cs) : rm ≠ b := by obtain ⟨M, h1, h2⟩ := h; exact h1.ne hb
theorem Ranks.upT {w w' : World} {rm b : Nat} {ord : List Int} {ty : TypeId} {cs : Array Value} (h : Ranks w rm ord) (u : Upd (one b) w w') (hb : Blk w b ty cs) (_ : 1 = 1) : Ranks w' rm ord := h.up u (h.ne hb)
theorem RankM.nil : RankM [] [] := fun b => by simp [mget]
theorem RankM.snoc {ord : List Int} {M : List (Int × Int)} {b : Int} (h : RankM ord M) (hb : b ∉ ord) : RankM (ord ++ [b]) (mset M b (ord.length : Int)) := fun x => by
  rw [mget_mset]
  by_cases hx : x = b
  · subst hx
    simp [List.idxOf_append, hb]
  · rw [if_neg hx, h x]
    by_cases hm : x ∈ ord
    · simp [hm, List.idxOf_append]
    · simp [hm, hx]
def rankL (ord : List Int) (b : Int) : Nat := if b ∈ ord then ord.idxOf b else ord.length
structure Job (w0 w : World) (bj : Nat) (vs : Value) (us : List Value) (vo : Value) (rm : Nat) (vt : Value) (xss : List (List Int)) (H : Nat) (ord : List Int) (ss : List (Int × Int × Int)) (nx : Nat) : Prop where
  blk : Blk w bj 108 #[vs, .int .i64 H, vo, .map (some rm), vt, .int .i64 nx]
  ms : MS w0 w vs us xss
  ordI : Ints w0 vo ord
  ranks : Ranks w rm ord
  steps : Sl w 68 3 vt ss.length (stepsC ss)
  ft : Fresh w0 vt
  fb : w0.heap.size ≤ bj
  fm : w0.heap.size ≤ rm
  ext : Ext w0 w
section
variable {w0 w w' : World} {bj : Nat} {vs : Value} {us : List Value} {vo : Value} {rm : Nat} {vt : Value} {xss : List (List Int)} {H : Nat} {ord : List Int} {ss : List (Int × Int × Int)} {nx : Nat}
theorem MS.row_lt (h : MS w0 w vs us xss) {y : Value} (hy : y ∈ us) {b : Nat} (e : vblk y = some b) : b < w.heap.size := by
  obtain ⟨i, hi, rfl⟩ := List.mem_iff_getElem.1 hy
  have hl := h.len
  exact (h.rowOf (i := i) (by omega) (List.getElem?_eq_getElem hi)).blk_lt e
theorem MS.snoc {v' u : Value} {xs : List Int} (h : MS w0 w vs us xss) (hx : SInts w u xs) (hf : Fresh w0 u) (hsep : ∀ b, vblk u = some b → ∀ y ∈ us, vblk y ≠ some b) (hfv : Fresh w0 v') (hU : Upd (fun b => vblk vs = some b) w w') (hO : Sl w' 35 1 v' (xss.length + 1) (us ++ [u])) : MS w0 w' v' (us ++ [u]) (xss ++ [xs]) := by
  have hl := h.len
  refine ⟨MO.snoc h.mo hx hU hO, hfv, fun y hy => ?_, fun i j y y' b h1 h2 h3 h4 => ?_⟩
  · rcases List.mem_append.1 hy with hy | hy
    · exact h.fs y hy
    · simp at hy; subst hy; exact hf
  · rw [List.getElem?_append] at h1 h2
    split at h1
    · split at h2
      · exact h.sep i j y y' b h1 h2 h3 h4
      · rename_i hj
        have : j - us.length = 0 := by
          have := (List.getElem?_eq_some_iff.1 h2).1; simp at this; omega
        rw [this] at h2; simp at h2; subst h2
        exact absurd h3 (hsep b h4 y (List.mem_of_getElem? h1))
    · rename_i hi
      have e1 : i - us.length = 0 := by
        have := (List.getElem?_eq_some_iff.1 h1).1; simp at this; omega
      rw [e1] at h1; simp at h1; subst h1
      split at h2
      · exact absurd h4 (hsep b h3 y' (List.mem_of_getElem? h2))
      · have := (List.getElem?_eq_some_iff.1 h2).1; simp at this; omega
theorem Job.up {X : Nat → Prop} (h : Job w0 w bj vs us vo rm vt xss H ord ss nx) (u : Upd X w w') (h0 : ∀ x, X x → w0.heap.size ≤ x) (h1 : ¬ X bj) (h2 : ∀ b, vblk vs = some b → ¬ X b) (h3 : ∀ y ∈ us, ∀ b, vblk y = some b → ¬ X b) (h4 : ¬ X rm) (h5 : ∀ b, vblk vt = some b → ¬ X b) : Job w0 w' bj vs us vo rm vt xss H ord ss nx :=
  ⟨h.blk.up u h1, ⟨⟨h.ms.outer.up u h2, fun i hi => by obtain ⟨y, q1, q2⟩ := h.ms.mo.elems i hi; exact ⟨y, q1, q2.up u (h3 y (List.mem_of_getElem? q1))⟩⟩, h.ms.f, h.ms.fs, h.ms.sep⟩, h.ordI, h.ranks.up u h4, h.steps.up u h5, h.ft, h.fb, h.fm, h.ext.trans u fun b hb hx => by have := h0 b hx; omega⟩
theorem Job.ex (h : Job w0 w bj vs us vo rm vt xss H ord ss nx) (u : Ext w w') : Job w0 w' bj vs us vo rm vt xss H ord ss nx := h.up u (fun _ h => h.elim) id (fun _ _ => id) (fun _ _ _ _ => id) id (fun _ _ => id)
def JB (bj : Nat) (vs : Value) (us : List Value) (vt : Value) (x : Nat) : Prop := x = bj ∨ vblk vs = some x ∨ (∃ y ∈ us, vblk y = some x) ∨ vblk vt = some x
theorem Job.lt (h : Job w0 w bj vs us vo rm vt xss H ord ss nx) {x : Nat} (hx : JB bj vs us vt x) : x < w.heap.size := by
  rcases hx with rfl | hx | ⟨y, hy, hx⟩ | hx
  · exact h.blk.lt
  · exact h.ms.outer.blk_lt hx
  · exact h.ms.row_lt hy hx
  · exact h.steps.blk_lt hx
theorem Job.ge (h : Job w0 w bj vs us vo rm vt xss H ord ss nx) {x : Nat} (hx : JB bj vs us vt x) : w0.heap.size ≤ x := by
  rcases hx with rfl | hx | ⟨y, hy, hx⟩ | hx
  · exact h.fb
  · exact h.ms.f x hx
  · exact h.ms.fs y hy x hx
  · exact h.ft x hx
theorem Job.notin (h : Job w0 w bj vs us vo rm vt xss H ord ss nx) {b : Nat} {ty : TypeId} {cs : Array Value} (hb : Blk w b ty cs) (hne : ty ≠ 108 ∧ ty ≠ 35 ∧ ty ≠ 3 ∧ ty ≠ 68) : ¬ JB bj vs us vt b := fun hx => by
  rcases hx with rfl | hx | ⟨y, hy, hx⟩ | hx
  · exact hne.1 (hb.inj h.blk).2
  · obtain ⟨c, q⟩ := h.ms.outer.blk hx; exact hne.2.1 (hb.inj q).2
  · obtain ⟨i, hi, rfl⟩ := List.mem_iff_getElem.1 hy
    obtain ⟨c, q⟩ := (h.ms.rowOf (i := i) (by have := h.ms.len; omega) (List.getElem?_eq_getElem hi)).blk hx; exact hne.2.2.1 (hb.inj q).2
  · obtain ⟨c, q⟩ := h.steps.blk hx; exact hne.2.2.2 (hb.inj q).2
theorem Job.upT {b : Nat} {cs : Array Value} {ty : TypeId} (h : Job w0 w bj vs us vo rm vt xss H ord ss nx) (u : Upd (one b) w w') (hb : Blk w b ty cs) (hw : w0.heap.size ≤ b) (hne : ty ≠ 108 ∧ ty ≠ 35 ∧ ty ≠ 3 ∧ ty ≠ 68) : Job w0 w' bj vs us vo rm vt xss H ord ss nx := by
  have hn := h.notin hb hne
  refine h.up u (fun x e => by have e1 : x = b := e; omega) (fun e => hn (.inl (Eq.symm e))) (fun x e e1 => hn (.inr (.inl (by have e2 : x = b := e1; exact e2 ▸ e)))) (fun y hy x e e1 => hn (.inr (.inr (.inl ⟨y, hy, by have e2 : x = b := e1; exact e2 ▸ e⟩)))) (h.ranks.ne hb) (fun x e e1 => hn (.inr (.inr (.inr (by have e2 : x = b := e1; exact e2 ▸ e)))))
end
end Go.Proofs.Ytfdmndkoiheebaa

namespace Go.Proofs.Ytfdmndkoiheebaa
open Go Go.RowKit Go.ChangeShapes Go.WideShapes Go.ChangeAt Go.Joins Go.Deep
section
variable {H : Type} {enc : TypeId × Value → H}
theorem stepsC_get {ss : List (Int × Int × Int)} {i : Nat} (h : i < ss.length) : (stepsC ss)[i * 3]? = some (.int .i64 ss[i].1) ∧ (stepsC ss)[i * 3 + 1]? = some (.int .i64 ss[i].2.1) ∧ (stepsC ss)[i * 3 + 2]? = some (.int .i64 ss[i].2.2) := by
  have h0 := congrArg (fun l => l[0]?) (steps_take h)
  have h1 := congrArg (fun l => l[1]?) (steps_take h)
  have h2 := congrArg (fun l => l[2]?) (steps_take h)
  simp [List.getElem?_drop] at h0 h1 h2
  exact ⟨h0, h1, h2⟩
set_option maxRecDepth 100000 in
theorem open_steps {W : World} {b0 : Nat} {v : Value} {d : DataW H} {p : List MemPlace} (hv : Value.okWide Try.prog W .any b0 62 v) (h : DataW.Trod enc Try.prog W 0 (fun _ => true) true 62 v d p) :
    ∃ ss : List (Int × Int × Int), Steps W v ss ∧ ss.length ≤ 9223372036854775807 := by
  obtain ⟨a0, len0, cap0, rfl⟩ := okWide_slice Try.underlying62 hv
  obtain ⟨fuel, hf⟩ := h
  rcases open_slice Try.underlying62 hf with ⟨h1, _⟩ | ⟨a, len, cap, m, n, Dd, Pl, h1, _, hl, hm, hmm, _, hc⟩
  · simp [Value.cells] at h1
    obtain ⟨rfl, rfl, rfl⟩ := h1
    exact ⟨[], Row.nil _ _, by simp⟩
  · simp [Value.cells] at h1
    obtain ⟨rfl, rfl, rfl⟩ := h1
    rw [maxLen_eq] at hm
    simp only [if_true] at hmm
    subst hmm
    have ce : Try.prog.cellsOf 68 = 3 := by kernel_rfl
    have each : ∀ i, i < m → ∃ s : Int × Int × Int, W.cell? (a.add (i * 3)) = some (.int .i64 s.1) ∧ W.cell? (a.add (i * 3 + 1)) = some (.int .i64 s.2.1) ∧ W.cell? (a.add (i * 3 + 2)) = some (.int .i64 s.2.2) := fun i hi => by
      obtain ⟨cs', g1, g2⟩ := hc i hi
      rw [ce] at g1
      obtain ⟨_, hlen, hcell⟩ := World.cells?_some g1
      obtain ⟨xs, k, hk, hxy, _, hxl, hfx⟩ := DataW.trod_struct Try.underlying68 g2
      have c3 : Try.prog.cellsOf 3 = 1 := by kernel_rfl
      match xs, hxl, cs', hlen with
      | [y0, y1, y2], _, [v0, v1, v2], _ =>
        have k0 := hfx 0 _ rfl
        have k1 := hfx 1 _ rfl
        have k2 := hfx 2 _ rfl
        simp [c3] at k0 k1 k2
        obtain ⟨x, e0, _, _⟩ := DataW.trod_int Try.underlying3 k0
        obtain ⟨y, e1, _, _⟩ := DataW.trod_int Try.underlying3 k1
        obtain ⟨z, e2, _, _⟩ := DataW.trod_int Try.underlying3 k2
        simp at e0 e1 e2
        have d0 := hcell 0 (by omega)
        have d1 := hcell 1 (by omega)
        have d2 := hcell 2 (by omega)
        rw [add_add] at d0 d1 d2
        subst e0 e1 e2
        exact ⟨(x, y, z), by simpa using d0, by simpa using d1, by simpa using d2⟩
    obtain ⟨q, hq⟩ := choose_lt each
    refine ⟨(List.range len0).map q, ⟨some a, m, by simp, by simpa using hl, by rw [stepsC_len], fun j hj => ⟨a, rfl, ?_⟩⟩, by simp; omega⟩
    rw [stepsC_len, List.length_map, List.length_range] at hj
    have hi : j / 3 < len0 := by omega
    obtain ⟨g0, g1, g2⟩ := stepsC_get (ss := (List.range len0).map q) (i := j / 3) (by simpa using hi)
    obtain ⟨c0, c1, c2⟩ := hq (j / 3) (by omega)
    rcases (show j = j / 3 * 3 ∨ j = j / 3 * 3 + 1 ∨ j = j / 3 * 3 + 2 by omega) with e | e | e
    · rw [e, g0, c0]; simp
    · rw [e, g1, c1]; simp
    · rw [e, g2, c2]; simp
end
end Go.Proofs.Ytfdmndkoiheebaa

namespace Go.Proofs.Ytfdmndkoiheebaa
open Go Go.RowKit
def PRes (w w' : World) (r : Value) (p : List (List Int) × Int × Nat × Int) : Prop := ∃ u, r = .tuple #[.agg #[u, .int .i64 p.2.1], .int .i64 (p.2.2.1 : Nat), .int .i64 p.2.2.2] ∧ YO w w' u p.2.1 p.1
def QRes (w' : World) (r : Value) (p : List (List Int) × Int × Nat × Int) : Prop := ∃ u us, r = .tuple #[.agg #[u, .int .i64 p.2.1], .int .i64 (p.2.2.1 : Nat), .int .i64 p.2.2.2] ∧ MO w' u us p.1
theorem PRes.zero {w w' : World} {k : Nat} {e : Int} : PRes w w' (.tuple #[.agg #[.slice none 0 0, .int .i64 0], .int .i64 (k : Nat), .int .i64 e]) ([], 0, k, e) := ⟨_, rfl, .inl ⟨rfl, rfl, rfl⟩⟩
theorem QRes.zero {w' : World} {k : Nat} {e : Int} : QRes w' (.tuple #[.agg #[.slice none 0 0, .int .i64 0], .int .i64 (k : Nat), .int .i64 e]) ([], 0, k, e) := ⟨_, _, rfl, MO.nil _⟩
end Go.Proofs.Ytfdmndkoiheebaa

namespace Go.Proofs.Ytfdmndkoiheebaa
open Go Go.RowKit
theorem LentM.upS {w w' : World} {v x : Value} {xss : List (List Int)} {ty' : TypeId} {k' m : Nat} {ds : List Value} (h : LentM w v xss) (u : Upd (fun b => vblk x = some b) w w') (hx : Sl w ty' k' x m ds) (hne : 35 ≠ ty' ∧ 3 ≠ ty') : LentM w' v xss := by
  obtain ⟨v0, us, ms, h1, h2, h3, h4⟩ := h
  exact ⟨v0, us, ms, h1.upS u hx hne.1, h2, ⟨h3.1, fun i hi => let ⟨y, a, b⟩ := h3.2 i hi; ⟨y, a, b.upS u hx hne.2⟩⟩, ⟨h4.1, fun i hi => let ⟨y, a, b⟩ := h4.2 i hi; ⟨y, a, b.upS u hx hne.2⟩⟩⟩
theorem PY.upS {w w' : World} {v x : Value} {H ba : Nat} {us : List Value} {cur : Array Value} {xss : List (List Int)} {ty' : TypeId} {k' m : Nat} {ds : List Value} (h : PY w v H ba us cur xss) (u : Upd (fun b => vblk x = some b) w w') (hx : Sl w ty' k' x m ds) (hne : 35 ≠ ty' ∧ 3 ≠ ty') : PY w' v H ba us cur xss :=
  ⟨h.outer.upS u hx hne.1, h.all.upS u hx hne.2, h.size, h.elems⟩
theorem YO.upS {w w' w'' : World} {v x : Value} {h : Int} {xss : List (List Int)} {ty' : TypeId} {k' m : Nat} {ds : List Value} (y : YO w w' v h xss) (u : Upd (fun b => vblk x = some b) w' w'') (hx : Sl w' ty' k' x m ds) (hne : 35 ≠ ty' ∧ 3 ≠ ty') : YO w w'' v h xss := by
  rcases y with y | ⟨H, ba, us, cur, hh, hP, hr⟩
  · exact .inl y
  · exact .inr ⟨H, ba, us, cur, hh, hP.upS u hx hne, hr⟩
theorem Fresh.app' {w0 w w' : World} {v v' : Value} {n : Nat} (hs : w0.heap.size ≤ w.heap.size) (hf : Fresh w0 v) (hd : (vblk v' = vblk v ∧ n ≤ vcap v ∧ vcap v' = vcap v) ∨ (∃ b, vblk v' = some b ∧ w.heap.size ≤ b ∧ Ext w w')) : Fresh w0 v' := by
  intro b hb
  rcases hd with ⟨h1, _⟩ | ⟨b', h1, h2, _⟩
  · exact hf b (h1 ▸ hb)
  · rw [h1] at hb; simp at hb; omega
end Go.Proofs.Ytfdmndkoiheebaa
