import Derived.Test.YtfdmndkoiheebaaZ16Yard3
namespace Go.Proofs.Ytfdmndkoiheebaa
open Go Go.RowKit
theorem t97 : Ty Try.prog 97 1 8 false (.map none) := ⟨by kernel_rfl, _, Try.underlying97, rfl⟩
theorem t104 : Ty Try.prog 104 1 8 false (.pointer none) := ⟨by kernel_rfl, _, Try.underlying104, rfl⟩
theorem t108 : Ty Try.prog 108 6 96 true (.agg #[.slice none 0 0, .int .i64 0, .slice none 0 0, .map none, .slice none 0 0, .int .i64 0]) := ⟨by kernel_rfl, _, Try.underlying108, rfl⟩
theorem fa108_0 : Fld Try.prog 108 0 0 := ⟨_, _, 1, Try.underlying108, rfl, rfl, by decide, by kernel_rfl⟩
theorem fa108_1 : Fld Try.prog 108 1 1 := ⟨_, _, 1, Try.underlying108, rfl, rfl, by decide, by kernel_rfl⟩
theorem fa108_2 : Fld Try.prog 108 2 2 := ⟨_, _, 1, Try.underlying108, rfl, rfl, by decide, by kernel_rfl⟩
theorem fa108_3 : Fld Try.prog 108 3 3 := ⟨_, _, 1, Try.underlying108, rfl, rfl, by decide, by kernel_rfl⟩
theorem fa108_4 : Fld Try.prog 108 4 4 := ⟨_, _, 1, Try.underlying108, rfl, rfl, by decide, by kernel_rfl⟩
theorem fa108_5 : Fld Try.prog 108 5 5 := ⟨_, _, 1, Try.underlying108, rfl, rfl, by decide, by kernel_rfl⟩
theorem s35 : (Try.prog.info? 35).map (·.size) = some 1 := by kernel_rfl
theorem s97 : (Try.prog.info? 97).map (·.size) = some 1 := by kernel_rfl
theorem s62 : (Try.prog.info? 62).map (·.size) = some 1 := by kernel_rfl
theorem build108 {h o m : Value} (hh : h.oneCell' = true) (ho : o.oneCell' = true) (hm : m.oneCell' = true) (w : World) : (Instr.build 108 #[(1, h), (2, o), (3, m)]).run Try.prog w = .ok (.agg #[.slice none 0 0, h, o, m, .slice none 0 0, .int .i64 0]) w := by
  simp [Instr.build, t108.zero, underlying, Try.underlying108, sizeOf_run s22, sizeOf_run s3, sizeOf_run s35, sizeOf_run s97, sizeOf_run s62, Instr.fill, cells_agg, cells_one hh, cells_one ho, cells_one hm]
def stepsC (ss : List (Int × Int × Int)) : List Value := ss.flatMap fun s => [.int .i64 s.1, .int .i64 s.2.1, .int .i64 s.2.2]
abbrev Steps (w : World) (v : Value) (ss : List (Int × Int × Int)) : Prop := Row w 3 v ss.length (stepsC ss)
theorem stepsC_cons (s : Int × Int × Int) (ss : List (Int × Int × Int)) : stepsC (s :: ss) = [.int .i64 s.1, .int .i64 s.2.1, .int .i64 s.2.2] ++ stepsC ss := rfl
theorem stepsC_len (ss : List (Int × Int × Int)) : (stepsC ss).length = ss.length * 3 := by
  induction ss with
  | nil => rfl
  | cons s ss ih => rw [stepsC_cons, List.length_append, ih, List.length_cons]; simp; omega
theorem stepsC_snoc (ss : List (Int × Int × Int)) (s : Int × Int × Int) : stepsC (ss ++ [s]) = stepsC ss ++ [.int .i64 s.1, .int .i64 s.2.1, .int .i64 s.2.2] := by simp [stepsC]
theorem steps_take {ss : List (Int × Int × Int)} {i : Nat} (h : i < ss.length) : ((stepsC ss).drop (i * 3)).take 3 = [.int .i64 ss[i].1, .int .i64 ss[i].2.1, .int .i64 ss[i].2.2] := by
  induction ss generalizing i with
  | nil => simp at h
  | cons s ss ih =>
    cases i with
    | zero => simp [stepsC_cons]
    | succ i =>
      have := ih (i := i) (by simpa using h)
      rw [stepsC_cons, show (i + 1) * 3 = 3 + i * 3 by omega, ← List.drop_drop]
      simpa using this
theorem steps_one {ss : List (Int × Int × Int)} : ∀ u ∈ stepsC ss, u.oneCell' = true := by
  intro u hu
  obtain ⟨m, _, hm⟩ := List.mem_flatMap.1 hu
  simp at hm
  rcases hm with rfl | rfl | rfl <;> rfl
theorem R.ldS {P : Program} {ops : Array Oper} {S : Bool → Nat → Prop} {dr : Bool} {B : List Nat} {F : Env → World → Prop} {rest : List Oper} {e : Env} {w w0 : World} {d : Tmp} {ty : TypeId} {pos : String} {aft : Array Edge} {x : Operand} {t : TypeId} {c : Bool} {by_ i : Nat} {z v : Value} {ss : List (Int × Int × Int)} (hk : Ty P t 3 by_ true z) (hr : Steps w0 v ss) (hE : Ext w0 w) (hi : i < ss.length) (hx : ev e x = elemPtr v (i * 3)) (hc : B.contains d = c) (hS : ∀ b, b < w0.heap.size → S c b)
    (h : wpR P ops S dr (kind B) F rest (upd e d (.agg #[.int .i64 ss[i].1, .int .i64 ss[i].2.1, .int .i64 ss[i].2.2])) w) : wpR P ops S dr (kind B) F (⟨some d, .load t x, ty, pos, aft, none⟩ :: rest) e w :=
  R.loadE hk (by decide) (hr.ext hE) hx (steps_take hi) rfl hc (fun b hb => hS b (hr.blk_at (j := i * 3) (by rw [stepsC_len]; omega) b hb)) h
def RankM (ord : List Int) (M : List (Int × Int)) : Prop := ∀ b, mget M b = if b ∈ ord then some (ord.idxOf b : Int) else none
def Ranks (w : World) (rm : Nat) (ord : List Int) : Prop := ∃ M, MapI w rm M ∧ RankM ord M
theorem Ranks.up {X : Nat → Prop} {w w' : World} {rm : Nat} {ord : List Int} (h : Ranks w rm ord) (u : Upd X w w') (hx : ¬ X rm) : Ranks w' rm ord := by obtain ⟨M, h1, h2⟩ := h; exact ⟨M, h1.up u hx, h2⟩
theorem Ranks.ext {w w' : World} {rm : Nat} {ord : List Int} (h : Ranks w rm ord) (u : Ext w w') : Ranks w' rm ord := h.up u id
theorem Ranks.ne {w : World} {rm b : Nat} {ord : List Int} {ty : TypeId} {cs : Array Value} (h : Ranks w rm ord) (hb : Blk w b ty cs) : rm ≠ b := by obtain ⟨M, h1, h2⟩ := h; exact h1.ne hb
theorem Ranks.upT {w w' : World} {rm b : Nat} {ord : List Int} {ty : TypeId} {cs : Array Value} (h : Ranks w rm ord) (u : Upd (one b) w w') (hb : Blk w b ty cs) (_ : 1 = 1) : Ranks w' rm ord := h.up u (h.ne hb)
theorem RankM.nil : RankM [] [] := fun b => by simp [mget]
theorem RankM.snoc {ord : List Int} {M : List (Int × Int)} {b : Int} (h : RankM ord M) (hb : b ∉ ord) : RankM (ord ++ [b]) (mset M b (ord.length : Int)) := fun x => by
  rw [mget_mset]
  by_cases hx : x = b
  · subst hx
    simp [List.idxOf_append, hb]
  · rw [if_neg hx, h x]
    by_cases hm : x ∈ ord
    · simp [hm, List.idxOf_append]
    · simp [hm, hx]
def rankL (ord : List Int) (b : Int) : Nat := if b ∈ ord then ord.idxOf b else ord.length
theorem rankL_le (ord : List Int) (b : Int) : rankL ord b ≤ ord.length := by
  unfold rankL; split
  · exact List.idxOf_le_length
  · exact Nat.le_refl _
structure Job (w0 w : World) (bj : Nat) (vs : Value) (us : List Value) (vo : Value) (rm : Nat) (vt : Value) (xss : List (List Int)) (H : Nat) (ord : List Int) (ss : List (Int × Int × Int)) (nx : Nat) : Prop where
  blk : Blk w bj 108 #[vs, .int .i64 H, vo, .map (some rm), vt, .int .i64 nx]
  ms : MS w0 w vs us xss
  ordI : Ints w0 vo ord
  ranks : Ranks w rm ord
  steps : Sl w 68 3 vt ss.length (stepsC ss)
  ft : Fresh w0 vt
  fb : w0.heap.size ≤ bj
  fm : w0.heap.size ≤ rm
  ext : Ext w0 w
section
variable {w0 w w' : World} {bj : Nat} {vs : Value} {us : List Value} {vo : Value} {rm : Nat} {vt : Value} {xss : List (List Int)} {H : Nat} {ord : List Int} {ss : List (Int × Int × Int)} {nx : Nat}
theorem MS.row_lt (h : MS w0 w vs us xss) {y : Value} (hy : y ∈ us) {b : Nat} (e : vblk y = some b) : b < w.heap.size := by
  obtain ⟨i, hi, rfl⟩ := List.mem_iff_getElem.1 hy
  have hl := h.len
  exact (h.rowOf (i := i) (by omega) (List.getElem?_eq_getElem hi)).blk_lt e
theorem MS.snoc {v' u : Value} {xs : List Int} (h : MS w0 w vs us xss) (hx : SInts w u xs) (hf : Fresh w0 u) (hsep : ∀ b, vblk u = some b → ∀ y ∈ us, vblk y ≠ some b) (hfv : Fresh w0 v') (hU : Upd (fun b => vblk vs = some b) w w') (hO : Sl w' 35 1 v' (xss.length + 1) (us ++ [u])) : MS w0 w' v' (us ++ [u]) (xss ++ [xs]) := by
  have hl := h.len
  refine ⟨MO.snoc h.mo hx hU hO, hfv, fun y hy => ?_, fun i j y y' b h1 h2 h3 h4 => ?_⟩
  · rcases List.mem_append.1 hy with hy | hy
    · exact h.fs y hy
    · simp at hy; subst hy; exact hf
  · rw [List.getElem?_append] at h1 h2
    split at h1
    · split at h2
      · exact h.sep i j y y' b h1 h2 h3 h4
      · rename_i hj
        have : j - us.length = 0 := by
          have := (List.getElem?_eq_some_iff.1 h2).1; simp at this; omega
        rw [this] at h2; simp at h2; subst h2
        exact absurd h3 (hsep b h4 y (List.mem_of_getElem? h1))
    · rename_i hi
      have e1 : i - us.length = 0 := by
        have := (List.getElem?_eq_some_iff.1 h1).1; simp at this; omega
      rw [e1] at h1; simp at h1; subst h1
      split at h2
      · exact absurd h4 (hsep b h3 y' (List.mem_of_getElem? h2))
      · have := (List.getElem?_eq_some_iff.1 h2).1; simp at this; omega
theorem Job.up {X : Nat → Prop} (h : Job w0 w bj vs us vo rm vt xss H ord ss nx) (u : Upd X w w') (h0 : ∀ x, X x → w0.heap.size ≤ x) (h1 : ¬ X bj) (h2 : ∀ b, vblk vs = some b → ¬ X b) (h3 : ∀ y ∈ us, ∀ b, vblk y = some b → ¬ X b) (h4 : ¬ X rm) (h5 : ∀ b, vblk vt = some b → ¬ X b) : Job w0 w' bj vs us vo rm vt xss H ord ss nx :=
  ⟨h.blk.up u h1, ⟨⟨h.ms.outer.up u h2, fun i hi => by obtain ⟨y, q1, q2⟩ := h.ms.mo.elems i hi; exact ⟨y, q1, q2.up u (h3 y (List.mem_of_getElem? q1))⟩⟩, h.ms.f, h.ms.fs, h.ms.sep⟩, h.ordI, h.ranks.up u h4, h.steps.up u h5, h.ft, h.fb, h.fm, h.ext.trans u fun b hb hx => by have := h0 b hx; omega⟩
theorem Job.ex (h : Job w0 w bj vs us vo rm vt xss H ord ss nx) (u : Ext w w') : Job w0 w' bj vs us vo rm vt xss H ord ss nx := h.up u (fun _ h => h.elim) id (fun _ _ => id) (fun _ _ _ _ => id) id (fun _ _ => id)
def JB (bj : Nat) (vs : Value) (us : List Value) (vt : Value) (x : Nat) : Prop := x = bj ∨ vblk vs = some x ∨ (∃ y ∈ us, vblk y = some x) ∨ vblk vt = some x
theorem Job.lt (h : Job w0 w bj vs us vo rm vt xss H ord ss nx) {x : Nat} (hx : JB bj vs us vt x) : x < w.heap.size := by
  rcases hx with rfl | hx | ⟨y, hy, hx⟩ | hx
  · exact h.blk.lt
  · exact h.ms.outer.blk_lt hx
  · exact h.ms.row_lt hy hx
  · exact h.steps.blk_lt hx
theorem Job.ge (h : Job w0 w bj vs us vo rm vt xss H ord ss nx) {x : Nat} (hx : JB bj vs us vt x) : w0.heap.size ≤ x := by
  rcases hx with rfl | hx | ⟨y, hy, hx⟩ | hx
  · exact h.fb
  · exact h.ms.f x hx
  · exact h.ms.fs y hy x hx
  · exact h.ft x hx
theorem Job.notin (h : Job w0 w bj vs us vo rm vt xss H ord ss nx) {b : Nat} {ty : TypeId} {cs : Array Value} (hb : Blk w b ty cs) (hne : ty ≠ 108 ∧ ty ≠ 35 ∧ ty ≠ 3 ∧ ty ≠ 68) : ¬ JB bj vs us vt b := fun hx => by
  rcases hx with rfl | hx | ⟨y, hy, hx⟩ | hx
  · exact hne.1 (hb.inj h.blk).2
  · obtain ⟨c, q⟩ := h.ms.outer.blk hx; exact hne.2.1 (hb.inj q).2
  · obtain ⟨i, hi, rfl⟩ := List.mem_iff_getElem.1 hy
    obtain ⟨c, q⟩ := (h.ms.rowOf (i := i) (by have := h.ms.len; omega) (List.getElem?_eq_getElem hi)).blk hx; exact hne.2.2.1 (hb.inj q).2
  · obtain ⟨c, q⟩ := h.steps.blk hx; exact hne.2.2.2 (hb.inj q).2
theorem Job.upT {b : Nat} {cs : Array Value} {ty : TypeId} (h : Job w0 w bj vs us vo rm vt xss H ord ss nx) (u : Upd (one b) w w') (hb : Blk w b ty cs) (hw : w0.heap.size ≤ b) (hne : ty ≠ 108 ∧ ty ≠ 35 ∧ ty ≠ 3 ∧ ty ≠ 68) : Job w0 w' bj vs us vo rm vt xss H ord ss nx := by
  have hn := h.notin hb hne
  refine h.up u (fun x e => by have e1 : x = b := e; omega) (fun e => hn (.inl (Eq.symm e))) (fun x e e1 => hn (.inr (.inl (by have e2 : x = b := e1; exact e2 ▸ e)))) (fun y hy x e e1 => hn (.inr (.inr (.inl ⟨y, hy, by have e2 : x = b := e1; exact e2 ▸ e⟩)))) (h.ranks.ne hb) (fun x e e1 => hn (.inr (.inr (.inr (by have e2 : x = b := e1; exact e2 ▸ e)))))
end
end Go.Proofs.Ytfdmndkoiheebaa

namespace Go.Proofs.Ytfdmndkoiheebaa
open Go Go.RowKit
def PRes (w w' : World) (r : Value) (p : List (List Int) × Int × Nat × Int) : Prop := ∃ u, r = .tuple #[.agg #[u, .int .i64 p.2.1], .int .i64 (p.2.2.1 : Nat), .int .i64 p.2.2.2] ∧ YO w w' u p.2.1 p.1
def QRes (w' : World) (r : Value) (p : List (List Int) × Int × Nat × Int) : Prop := ∃ u us, r = .tuple #[.agg #[u, .int .i64 p.2.1], .int .i64 (p.2.2.1 : Nat), .int .i64 p.2.2.2] ∧ MO w' u us p.1
theorem PRes.zero {w w' : World} {k : Nat} {e : Int} : PRes w w' (.tuple #[.agg #[.slice none 0 0, .int .i64 0], .int .i64 (k : Nat), .int .i64 e]) ([], 0, k, e) := ⟨_, rfl, .inl ⟨rfl, rfl, rfl⟩⟩
theorem QRes.zero {w' : World} {k : Nat} {e : Int} : QRes w' (.tuple #[.agg #[.slice none 0 0, .int .i64 0], .int .i64 (k : Nat), .int .i64 e]) ([], 0, k, e) := ⟨_, _, rfl, MO.nil _⟩
theorem rShiftP (w : World) {v : Value} {h f t h' e : Int} {us : List Value} {xss l : List (List Int)} (hm : Mat w v us xss) (hl : xss.length < 100000) (hx : ∀ xs ∈ xss, xs.length ≤ 10) (hp : shiftR xss h f t = (l, h', e)) :
    Calls Try.prog 58 #[.agg #[v, .int .i64 h], .agg #[.int .i64 f, .int .i64 t]] w (Ret fun r w' => Ext w w' ∧ ∃ u us, r = .tuple #[.agg #[u, .int .i64 h'], .int .i64 e] ∧ MO w' u us l) := by
  have := rShift w (h := h) (f := f) (t := t) hm hl hx; rw [hp] at this; exact this
end Go.Proofs.Ytfdmndkoiheebaa

namespace Go.Proofs.Ytfdmndkoiheebaa
open Go Go.RowKit
theorem LentM.upS {w w' : World} {v x : Value} {xss : List (List Int)} {ty' : TypeId} {k' m : Nat} {ds : List Value} (h : LentM w v xss) (u : Upd (fun b => vblk x = some b) w w') (hx : Sl w ty' k' x m ds) (hne : 35 ≠ ty' ∧ 3 ≠ ty') : LentM w' v xss := by
  obtain ⟨v0, us, ms, h1, h2, h3, h4⟩ := h
  exact ⟨v0, us, ms, h1.upS u hx hne.1, h2, ⟨h3.1, fun i hi => let ⟨y, a, b⟩ := h3.2 i hi; ⟨y, a, b.upS u hx hne.2⟩⟩, ⟨h4.1, fun i hi => let ⟨y, a, b⟩ := h4.2 i hi; ⟨y, a, b.upS u hx hne.2⟩⟩⟩
theorem PY.upS {w w' : World} {v x : Value} {H ba : Nat} {us : List Value} {cur : Array Value} {xss : List (List Int)} {ty' : TypeId} {k' m : Nat} {ds : List Value} (h : PY w v H ba us cur xss) (u : Upd (fun b => vblk x = some b) w w') (hx : Sl w ty' k' x m ds) (hne : 35 ≠ ty' ∧ 3 ≠ ty') : PY w' v H ba us cur xss :=
  ⟨h.outer.upS u hx hne.1, h.all.upS u hx hne.2, h.size, h.elems⟩
theorem YO.upS {w w' w'' : World} {v x : Value} {h : Int} {xss : List (List Int)} {ty' : TypeId} {k' m : Nat} {ds : List Value} (y : YO w w' v h xss) (u : Upd (fun b => vblk x = some b) w' w'') (hx : Sl w' ty' k' x m ds) (hne : 35 ≠ ty' ∧ 3 ≠ ty') : YO w w'' v h xss := by
  rcases y with y | ⟨H, ba, us, cur, hh, hP, hr⟩
  · exact .inl y
  · exact .inr ⟨H, ba, us, cur, hh, hP.upS u hx hne, hr⟩
theorem Fresh.app' {w0 w w' : World} {v v' : Value} {n : Nat} (hs : w0.heap.size ≤ w.heap.size) (hf : Fresh w0 v) (hd : (vblk v' = vblk v ∧ n ≤ vcap v ∧ vcap v' = vcap v) ∨ (∃ b, vblk v' = some b ∧ w.heap.size ≤ b ∧ Ext w w')) : Fresh w0 v' := by
  intro b hb
  rcases hd with ⟨h1, _⟩ | ⟨b', h1, h2, _⟩
  · exact hf b (h1 ▸ hb)
  · rw [h1] at hb; simp at hb; omega
end Go.Proofs.Ytfdmndkoiheebaa
