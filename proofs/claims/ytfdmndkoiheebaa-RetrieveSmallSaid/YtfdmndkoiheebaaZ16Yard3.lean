import Derived.Test.YtfdmndkoiheebaaZ16Base4
import Derived.Test.YtfdmndkoiheebaaZ16Ops5
import Derived.Test.YtfdmndkoiheebaaZ16E1
import Derived.Test.YtfdmndkoiheebaaZ16A1
import Derived.ChangeSlices
import Derived.Deep.SlicePairs
import Derived.Laws.StructEq
namespace Go.Proofs.Ytfdmndkoiheebaa
open Go Go.RowKit
namespace R
variable {P : Program} {ops : Array Oper} {S : Bool → Nat → Prop} {dr : Bool} {B : List Nat} {F : Env → World → Prop} {rest : List Oper} {e : Env} {w : World}
variable {d : Tmp} {od : Option Tmp} {ty : TypeId} {pos : String} {aft : Array Edge}
theorem makeFunc {fn : Fn} {first cap : Array Operand} {f c : Array Value} (hf : first.map (ev e) = f) (hc : cap.map (ev e) = c)
    (h : wpR P ops S dr (kind B) F rest (upd e d (.func fn f c)) w) : wpR P ops S dr (kind B) F (⟨some d, .makeFunc fn first cap, ty, pos, aft, none⟩ :: rest) e w :=
  quiet _ rfl (fun w' _ => by simp [execOp, Instr.makeFunc, hf, hc]) h
theorem callV {f : FuncId} {x : Operand} {cap : Array Value} {args : Array Operand} {ats : Array TypeId} {vs : Array Value} {Φ : Value → World → Prop} (hent : Entered P f) (hx : ev e x = .func (.func f) #[] cap) (hargs : args.map (ev e) ++ cap = vs) (hc : Calls P f vs w (Ret Φ))
    (h : ∀ v w', Φ v w' → (dr = true → AgreeOn (S false) w w') ∧ wpR P ops S dr (kind B) F rest (updo e od v) w') :
    wpR P ops S dr (kind B) F (⟨od, .call { callee := .value x, args := args, argTypes := ats }, ty, pos, aft, none⟩ :: rest) e w := by
  refine loud Φ (by simp [kind]) ?_ (fun v w' hΦ => ⟨fun hd => ⟨(h v w' hΦ).1 hd, fun h2 => by simp [kind] at h2⟩, (h v w' hΦ).2⟩)
  have e1 : execOp (ev e) ⟨od, .call { callee := .value x, args := args, argTypes := ats }, ty, pos, aft, none⟩ = (do let d ← Deferred.ofValue (ev e x) (args.map (ev e)); invoke d.target d.args) := rfl
  rw [e1, hx]
  simp only [Deferred.ofValue, Sem.run_bind, Sem.run_pure, Result.andThen_ok, invoke, Array.empty_append, hargs]
  rw [hent]
  exact hc
def _root_.Go.Proofs.Ytfdmndkoiheebaa.Yields (P : Program) (l : Nat) (vs : Array Value) (w : World) (Φ : Value → World → Prop) : Prop := Loud P Φ ((Instr.yield l vs).run P w)
theorem callY {l : Nat} {x : Operand} {args : Array Operand} {ats : Array TypeId} {vs : Array Value} {Φ : Value → World → Prop} (hx : ev e x = .func (.yield l) #[] #[]) (hargs : args.map (ev e) = vs) (hc : Yields P l vs w Φ)
    (h : ∀ v w', Φ v w' → (dr = true → AgreeOn (S false) w w') ∧ wpR P ops S dr (kind B) F rest (updo e od v) w') :
    wpR P ops S dr (kind B) F (⟨od, .call { callee := .value x, args := args, argTypes := ats }, ty, pos, aft, none⟩ :: rest) e w := by
  refine loud Φ (by simp [kind]) ?_ (fun v w' hΦ => ⟨fun hd => ⟨(h v w' hΦ).1 hd, fun h2 => by simp [kind] at h2⟩, (h v w' hΦ).2⟩)
  have e1 : execOp (ev e) ⟨od, .call { callee := .value x, args := args, argTypes := ats }, ty, pos, aft, none⟩ = (do let d ← Deferred.ofValue (ev e x) (args.map (ev e)); invoke d.target d.args) := rfl
  rw [e1, hx]
  simp only [Deferred.ofValue, Sem.run_bind, Sem.run_pure, Result.andThen_ok, invoke, Array.empty_append, hargs]
  exact hc
end R
theorem Yields.mono {P : Program} {l : Nat} {vs : Array Value} {w : World} {Φ Φ' : Value → World → Prop} (h : Yields P l vs w Φ) (hm : ∀ v w, Φ v w → Φ' v w) : Yields P l vs w Φ' := Loud.mono h hm
def Obj1 (w : World) (l : Nat) (o : Obj) : Prop := w.heap[l]? = some o
theorem Obj1.lt {w : World} {l : Nat} {o : Obj} (h : Obj1 w l o) : l < w.heap.size := lt_of_get h
theorem Obj1.up {X : Nat → Prop} {w w' : World} {l : Nat} {o : Obj} (h : Obj1 w l o) (u : Upd X w w') (hx : ¬ X l) : Obj1 w' l o := (u.blk l h.lt hx).trans h
theorem Obj1.ext {w w' : World} {l : Nat} {o : Obj} (h : Obj1 w l o) (u : Ext w w') : Obj1 w' l o := h.up u id
theorem put_upd {w : World} {l : Nat} {o : Obj} : Upd (one l) w (w.putObj l o) := ⟨rfl, rfl, rfl, by simp, fun b _ hb => World.putObj_heap_other hb⟩
def updl (e : Env) : List (Nat × Value) → Env
  | [] => e
  | (t, v) :: l => updl (upd e t v) l
theorem foldl_env (N : Nat) : ∀ (l : List (Nat × Value)) (tmps : Array Value) (e : Env), tmps.size = N → (∀ p ∈ l, p.1 < N) → (∀ t, tmps.getD t undef = e.val t) →
    (l.foldl (fun tmps (p : Nat × Value) => tmps.setIfInBounds p.1 p.2) tmps).size = N ∧ ∀ t, (l.foldl (fun tmps (p : Nat × Value) => tmps.setIfInBounds p.1 p.2) tmps).getD t undef = (updl e l).val t := by
  intro l
  induction l with
  | nil => intro tmps e hs _ hg; exact ⟨hs, hg⟩
  | cons p l ih =>
    intro tmps e hs hp hg
    obtain ⟨d, v⟩ := p
    have hd : d < N := hp (d, v) List.mem_cons_self
    refine ih _ (upd e d v) (by simpa using hs) (fun p h => hp p (List.mem_cons_of_mem _ h)) (fun t => ?_)
    simp only [upd]
    by_cases ht : t = d
    · subst ht; simp [hs, hd]
    · simp only [if_neg ht, ← hg t, Array.getD_eq_getD_getElem?, Array.getElem?_setIfInBounds_ne (Ne.symm ht)]
structure LRec (N : Nat) (e : Env) (ps : Array Tmp) (assign body : Code) (r : Loop) : Prop where
  size : r.tmps.size = N
  get : ∀ t, r.tmps.getD t undef = e.val t
  params : r.params = ps
  assign : r.assign = assign
  body : r.body = body
def roundQ (l : Nat) (r : Loop) (Φ : Value → World → Prop) : Exit → Env → World → Prop
  | .normal, _, w => Obj1 w l (.loop { r with state := .busy }) ∧ ∀ w', Upd (one l) w w' → Obj1 w' l (.loop { r with state := .ready, pending := none }) → Φ (.bool true) w'
  | .ret, _, w => Obj1 w l (.loop { r with state := .busy }) ∧ ∀ w', Upd (one l) w w' → Obj1 w' l (.loop { r with state := .done, pending := some .ret }) → Φ (.bool false) w'
  | .exit id, _, w => Obj1 w l (.loop { r with state := .busy }) ∧ ∀ w', Upd (one l) w w' → Obj1 w' l (.loop { r with state := .done, pending := some (.exit id) }) → Φ (.bool false) w'
  | _, _, _ => False
theorem roundQ_post {P : Program} {l : Nat} {r : Loop} {Φ : Value → World → Prop} {x : Exit} {e : Env} {a : Act} {w : World} (q : roundQ l r Φ x e w) : roundPost P l (fun en w'' => ∃ v, en = .returned v ∧ Φ v w'') x a w := by
  cases x with
  | normal => exact ⟨_, _, run_endRound none q.1, _, rfl, q.2 _ put_upd (World.putObj_heap_same q.1.lt)⟩
  | ret => exact ⟨_, _, run_endRound (some .ret) q.1, _, rfl, q.2 _ put_upd (World.putObj_heap_same q.1.lt)⟩
  | exit i => exact ⟨_, _, run_endRound (some (.exit i)) q.1, _, rfl, q.2 _ put_upd (World.putObj_heap_same q.1.lt)⟩
  | goto t => exact q.elim
  | panic c => exact q.elim
  | outgrown => exact q.elim
def beginQ (P : Program) (N : Nat) (l : Nat) (r : Loop) (body : Code) (Φ : Value → World → Prop) : Exit → Env → World → Prop
  | .normal, e1, w1 => Obj1 w1 l (.loop r) ∧ ∀ w2, Upd (one l) w1 w2 → Obj1 w2 l (.loop { r with state := .busy }) → wpE ⟨some l, false⟩ P N body (roundQ l r Φ) e1 w2
  | _, _, _ => False
theorem yields_of {P : Program} {N l : Nat} {e : Env} {ps : Array Tmp} {assign body : Code} {r : Loop} {vs : Array Value} {w : World} {Φ : Value → World → Prop} (hr : LRec N e ps assign body r) (hl : Obj1 w l (.loop r)) (hs : r.state = .ready) (hn : vs.size = ps.size) (hp : ∀ p ∈ (ps.zip vs).toList, p.1 < N)
    (h : wpE ⟨some l, false⟩ P N assign (beginQ P N l r body Φ) (updl e (ps.zip vs).toList) w) : Yields P l vs w Φ := by
  obtain ⟨hsz, hget⟩ := foldl_env N (ps.zip vs).toList r.tmps e hr.size hp hr.get
  unfold Yields
  rw [run_yield hl (by rw [hr.params]; exact hn)]
  show RoundIn Fence.wide 0 P l r.fn _ r.assign r.body w _
  rw [hr.params, hr.assign, hr.body]
  refine roundIn_of_wpIn (F := Fence.wide) trivial ?_
  have hfold : (ps.zip vs).foldl (fun tmps x => match x with | (t, a) => tmps.setIfInBounds t a) r.tmps = (ps.zip vs).toList.foldl (fun tmps (p : Nat × Value) => tmps.setIfInBounds p.1 p.2) r.tmps := by
    rw [← Array.foldl_toList]
  refine wpIn_mono (h { tmps := _, defers := [] } ⟨by rw [hfold]; exact hsz, rfl, fun t => by rw [hfold]; exact hget t⟩) fun x a' w' ⟨e', rep, q⟩ => ?_
  cases x <;> simp only [beginQ] at q
  obtain ⟨hl1, hb⟩ := q
  refine ⟨_, run_beginRound hl1 hs, ?_⟩
  exact wpIn_mono (hb _ put_upd (World.putObj_heap_same hl1.lt) a' rep) fun x a2 w2 ⟨e2, rep2, q2⟩ => roundQ_post q2
def loopQ (l D : Nat) (Q : Exit → Env → World → Prop) (e : Env) (w : World) : Prop :=
  ∃ r : Loop, Obj1 w l (.loop r) ∧ r.state ≠ .busy ∧ ∀ w', Upd (one l) w w' → match r.pending with
    | none => Q .normal ⟨e.val, D :: e.ms⟩ w'
    | some .ret => Q .ret ⟨e.val, D :: e.ms⟩ w'
    | some (.exit id) => Q (.exit id) ⟨e.val, D :: e.ms⟩ w'
    | _ => False
theorem E.rangeF {P : Program} {N : Nat} {Q : Exit → Env → World → Prop} {e : Env} {w : World} {g : Operand} {ps : Array Tmp} {assign body : Code} {gf : FuncId} {cap : Array Value} (hg : ev e g = .func (.func gf) #[] cap) (hent : Entered P gf)
    (h : ∀ (w1 : World) (r : Loop) (D : Nat), Ext w w1 → w.heap.size ≤ D → Obj1 w1 D (.deferred (some [])) → Obj1 w1 (D + 1) (.loop r) → LRec N e ps assign body r → r.state = .ready → r.pending = none →
      Calls P gf (#[.func (.yield (D + 1)) #[] #[]] ++ cap) w1 (Ret fun _ w3 => loopQ (D + 1) D Q e w3)) :
    wpE ⟨none, true⟩ P N (.rangeFunc g ps assign body) Q e w := by
  intro a ha
  refine wpIn_rangeFunc fun fn _ => ?_
  let r : Loop := { state := .ready, pending := none, fn, tmps := a.tmps, params := ps, assign, body, defers := w.heap.size }
  have hw1 : Ext w ((w.alloc (.deferred (some []))).alloc (.loop r)) := (Upd.push w _).trans (Upd.push _ _) fun _ _ h => h
  have hD : Obj1 ((w.alloc (.deferred (some []))).alloc (.loop r)) w.heap.size (.deferred (some [])) := by
    show ((w.heap.push _).push _)[w.heap.size]? = _
    rw [Array.getElem?_push_lt (by simp)]; simp
  have hL : Obj1 ((w.alloc (.deferred (some []))).alloc (.loop r)) (w.heap.size + 1) (.loop r) := by
    show ((w.heap.push _).push _)[w.heap.size + 1]? = _
    have : w.heap.size + 1 = (w.heap.push (Obj.deferred (some []))).size := by simp
    rw [this, Array.getElem?_push_size]
  have hc := h _ r w.heap.size hw1 (Nat.le_refl _) hD hL ⟨ha.size, ha.get, rfl, rfl, rfl⟩ rfl rfl
  refine ⟨w.heap.size + 1, [{ target := .collected w.heap.size, args := #[] }], (w.alloc (.deferred (some []))).alloc (.loop r), ⟨.fn (.func gf) cap, #[.func (.yield (w.heap.size + 1)) #[] #[]]⟩, (w.alloc (.deferred (some []))).alloc (.loop r), gf, #[.func (.yield (w.heap.size + 1)) #[] #[]] ++ cap, (w.alloc (.deferred (some []))).alloc (.loop r), run_enterLoop_outer fn a.tmps ps assign body, ?_, fun _ _ => trivial, ?_, nofun, ?_⟩
  · have hge : a.eval g = .func (.func gf) #[] cap := by rw [ha.eval]; exact hg
    have e1 : resolve a.eval (rangeCall g (w.heap.size + 1)) 0 = Deferred.ofValue (a.eval g) #[.func (.yield (w.heap.size + 1)) #[] #[]] := by
      have e2 : a.eval (.const (.func (.yield (w.heap.size + 1)) #[] #[])) = .func (.yield (w.heap.size + 1)) #[] #[] := rfl
      simp only [resolve, List.map_toArray, List.map_cons, List.map_nil, e2]
    rw [e1, hge]
    rfl
  · simp only [invoke]
    exact hent _ _
  · refine callsIn_FR.2 (hc.mono fun en w3 ⟨v, he, r3, h1, h2, h3⟩ => ?_)
    subst he
    refine ⟨r3.pending, _, run_endLoop h1 h2, ?_⟩
    have h4 := h3 _ (put_upd (o := .loop { r3 with state := .exhausted }))
    have rep : Rep ⟨none, true⟩ N { a with defers := [{ target := .collected w.heap.size, args := #[] }] ++ a.defers } ⟨e.val, w.heap.size :: e.ms⟩ :=
      ⟨ha.size, by have := ha.defers; simp only [if_true] at this ⊢; rw [this]; rfl, ha.get⟩
    cases hpd : r3.pending with
    | none => rw [hpd] at h4; exact ⟨_, rep, h4⟩
    | some c =>
      rw [hpd] at h4
      cases c <;> simp only at h4
      case ret => exact wpIn_ret ⟨_, rep, h4⟩
      case exit id => exact wpIn_exit ⟨_, rep, h4⟩
theorem Takes.run {P : Program} : ∀ (Ds : List Nat) (w : World), Ds.Nodup → (∀ D ∈ Ds, Obj1 w D (.deferred (some []))) → ∃ w', Takes P Ds w w' ∧ Upd (fun x => x ∈ Ds) w w'
  | [], w, _, _ => ⟨w, rfl, Upd.refl _⟩
  | D :: Ds, w, hn, h => by
    have hD := h D List.mem_cons_self
    rw [List.nodup_cons] at hn
    obtain ⟨w', h1, h2⟩ := Takes.run Ds (w.putObj D (.deferred none)) hn.2 (fun x hx => (h x (List.mem_cons_of_mem _ hx)).up put_upd (fun e => hn.1 (by have e1 : x = D := e; exact e1 ▸ hx)))
    exact ⟨w', ⟨_, run_takeDeferred hD, h1⟩, (put_upd.mono (fun x _ e => by have e1 : x = D := e; rw [e1]; exact List.mem_cons_self)).trans h2 (fun x _ hx => List.mem_cons_of_mem _ hx)⟩
end Go.Proofs.Ytfdmndkoiheebaa

namespace Go.Proofs.Ytfdmndkoiheebaa
section
variable {xss : List (List Int)} {h : Int}
theorem RightP.l6 (hR : RightP xss h) : xss.length < 1000000 := by have := hR.2.2.2.1; omega
theorem RightP.x6 (hR : RightP xss h) : ∀ xs ∈ xss, xs.length < 1000000 := fun xs hx => by have := hR.2.2.2.2.1 xs hx; have := hR.2.1; omega
theorem RightP.b (hR : RightP xss h) : rightB xss h = true := rightB_true.2 hR
theorem RightP.rows (hR : RightP xss h) : (∀ xs ∈ xss, xs.Nodup) ∧ xss.Pairwise (fun l₁ l₂ => ∀ x ∈ l₁, ∀ y ∈ l₂, x ≠ y) := List.pairwise_flatten.1 hR.2.2.2.2.2.2
theorem RightP.find (hR : RightP xss h) {i k : Nat} (hi : i < xss.length) (hk : k < xss[i].length) : findL xss xss[i][k] = some (i, k) := by
  obtain ⟨h1, h2⟩ := hR.rows
  rw [findL_hit hi (fun xs hx hb => ?_) (List.getElem_mem hk), (h1 _ (List.getElem_mem hi)).idxOf_getElem]
  obtain ⟨j, hj, rfl⟩ := List.mem_iff_getElem.1 hx
  rw [List.length_take] at hj
  rw [List.getElem_take] at hb
  exact (List.pairwise_iff_getElem.1 h2 j i (by omega) hi (by omega)) _ hb _ (List.getElem_mem hk) rfl
theorem RightP.take_top (hR : RightP xss h) {i k : Nat} (hi : i < xss.length) (hk : k < xss[i].length) (hu : k + 1 = xss[i].length) : takeR xss h xss[i][k] = (xss.set i (xss[i].take k), h, 0) := by
  have : ¬ k + 1 < xss[i].length := by omega
  simp [takeR, hR.b, hR.find hi hk, hi, this]
theorem set_take_back {i k : Nat} (hi : i < xss.length) (hk : k < xss[i].length) (hu : k + 1 = xss[i].length) : (xss.set i (xss[i].take k)).set i (xss[i].take k ++ [xss[i][k]]) = xss := by
  rw [List.set_set, List.take_append_getElem, List.take_of_length_le (by omega), List.set_getElem_self]
theorem flatten_take_perm {i k : Nat} (hi : i < xss.length) (hk : k < xss[i].length) (hu : k + 1 = xss[i].length) : xss.flatten.Perm (xss[i][k] :: (xss.set i (xss[i].take k)).flatten) := by
  have hi' : i < (xss.set i (xss[i].take k)).length := by simpa using hi
  have := flatten_set_perm hi' xss[i][k]
  simp only [List.getElem_set_self] at this
  rw [set_take_back hi hk hu] at this
  exact this
theorem RightP.taken (hR : RightP xss h) {i k : Nat} (hi : i < xss.length) (hk : k < xss[i].length) (hu : k + 1 = xss[i].length) : RightP (xss.set i (xss[i].take k)) h ∧ xss[i][k] ∉ (xss.set i (xss[i].take k)).flatten := by
  have hp := flatten_take_perm hi hk hu
  obtain ⟨h1, h2, h3, h4, h5, h6, h7⟩ := hR
  rw [hp.nodup_iff, List.nodup_cons] at h7
  refine ⟨⟨h1, h2, by simpa using h3, by simpa using h4, fun xs hx => ?_, fun b hb => h6 b (hp.mem_iff.2 (List.mem_cons_of_mem _ hb)), h7.2⟩, h7.1⟩
  rcases List.mem_or_eq_of_mem_set hx with hx | rfl
  · exact h5 xs hx
  · have := h5 _ (List.getElem_mem hi); simp; omega
theorem findL_not {b : Int} (hb : b ∉ xss.flatten) : findL xss b = none := findL_miss fun xs hx hbx => hb (List.mem_flatten.2 ⟨xs, hx, hbx⟩)
theorem RightP.findV (hR : RightP xss h) {i k : Nat} (hi : i < xss.length) (hk : k < xss[i].length) : Ytfdmndkoiheebaa.findV xss xss[i][k] = .tuple #[.int .i64 i, .int .i64 k, .bool true] := by simp [Ytfdmndkoiheebaa.findV, hR.find hi hk]
theorem RightP.put (hR : RightP xss h) {b : Int} {i : Nat} (hi : i < xss.length) (hb : b ∉ xss.flatten) (h1 : 1 ≤ b) (h2 : b ≤ 999999) (hr : (xss[i].length : Int) < h) :
    putR xss h b i = (xss.set i (xss[i] ++ [b]), h, 0) ∧ RightP (xss.set i (xss[i] ++ [b])) h := by
  constructor
  · simp only [putR, findL_not hb, hR.b]
    rw [if_neg (by simp; omega), if_neg (by simp), if_neg (by omega), Int.toNat_natCast]
    have : xss.getD i [] = xss[i] := by simp [hi]
    rw [this, if_neg (by omega)]
  · have hp := flatten_set_perm hi b
    obtain ⟨q1, q2, q3, q4, q5, q6, q7⟩ := hR
    refine ⟨q1, q2, by simpa using q3, by simpa using q4, fun xs hx => ?_, fun c hc => ?_, ?_⟩
    · rcases List.mem_or_eq_of_mem_set hx with hx | rfl
      · exact q5 xs hx
      · simp; omega
    · rcases List.mem_cons.1 (hp.mem_iff.1 hc) with rfl | hc
      · exact ⟨h1, h2⟩
      · exact q6 c hc
    · rw [hp.nodup_iff, List.nodup_cons]; exact ⟨hb, q7⟩
theorem RightP.count {H : Nat} (hR : RightP xss (H : Int)) : xss.flatten.length ≤ xss.length * H := flatten_le fun xs hx => by have := hR.2.2.2.2.1 xs hx; omega
end
end Go.Proofs.Ytfdmndkoiheebaa

namespace Go.Proofs.Ytfdmndkoiheebaa
open Go Go.RowKit
theorem shiftL_len {xss : List (List Int)} {H : Nat} {f t : Int} : (shiftL xss H f t).1.length = xss.length := by
  unfold shiftL
  split
  · rfl
  · split
    · rfl
    · split
      · rfl
      · split
        · rfl
        · simp
theorem shiftL_ok {xss : List (List Int)} {H : Nat} {f t : Int} (h : (shiftL xss H f t).2 = 0) : ∃ (a b : Nat) (ha : a < xss.length) (hb : b < xss.length) (hl : 0 < xss[a].length), f = a ∧ t = b ∧ a ≠ b ∧ xss[b].length ≠ H ∧
    (shiftL xss H f t).1 = (xss.set b (xss[b] ++ [xss[a][xss[a].length - 1]])).set a xss[a].dropLast := by
  unfold shiftL at *
  split at h
  · simp at h
  · rename_i h1
    rw [if_neg h1]
    split at h
    · simp at h
    · rename_i h2
      rw [if_neg h2]
      have ha : f.toNat < xss.length := by omega
      have hb : t.toNat < xss.length := by omega
      have ga : xss.getD f.toNat [] = xss[f.toNat] := by simp [ha]
      have gb : xss.getD t.toNat [] = xss[t.toNat] := by simp [hb]
      rw [ga] at h ⊢
      rw [gb] at h ⊢
      split at h
      · simp at h
      · rename_i h3
        rw [if_neg h3]
        split at h
        · simp at h
        · rename_i h4
          rw [if_neg h4]
          refine ⟨f.toNat, t.toNat, ha, hb, by omega, by omega, by omega, by omega, h4, ?_⟩
          rw [List.getD_eq_getElem?_getD, List.getElem?_eq_getElem (show xss[f.toNat].length - 1 < xss[f.toNat].length by omega)]
          rfl
theorem shiftL_perm {xss : List (List Int)} {H : Nat} {f t : Int} (h : (shiftL xss H f t).2 = 0) : (shiftL xss H f t).1.flatten.Perm xss.flatten := by
  obtain ⟨a, b, ha, hb, hl, _, _, hab, _, he⟩ := shiftL_ok h
  rw [he]
  have p1 := flatten_set_perm hb xss[a][xss[a].length - 1]
  have hea : (xss.set b (xss[b] ++ [xss[a][xss[a].length - 1]]))[a]'(by simpa using ha) = xss[a] := List.getElem_set_ne (Ne.symm hab) _
  have p2 := flatten_take_perm (xss := xss.set b (xss[b] ++ [xss[a][xss[a].length - 1]])) (i := a) (k := xss[a].length - 1) (by simpa using ha) (by rw [hea]; omega) (by rw [hea]; omega)
  simp only [hea] at p2
  rw [← List.dropLast_eq_take] at p2
  exact (p2.symm.trans p1).cons_inv
theorem RightP.shift {xss : List (List Int)} {H : Nat} {f t : Int} (hR : RightP xss H) (h : (shiftL xss H f t).2 = 0) : RightP (shiftL xss H f t).1 H := by
  have hp := shiftL_perm h
  obtain ⟨a, b, ha, hb, hl, _, _, hab, hn, he⟩ := shiftL_ok h
  obtain ⟨q1, q2, q3, q4, q5, q6, q7⟩ := hR
  refine ⟨q1, q2, by rw [shiftL_len]; exact q3, by rw [shiftL_len]; exact q4, fun xs hx => ?_, fun x hx => q6 x (hp.mem_iff.1 hx), hp.nodup_iff.2 q7⟩
  rw [he] at hx
  rcases List.mem_or_eq_of_mem_set hx with hx | rfl
  · rcases List.mem_or_eq_of_mem_set hx with hx | rfl
    · exact q5 xs hx
    · have := q5 _ (List.getElem_mem hb); simp; omega
  · have := q5 _ (List.getElem_mem ha); simp; omega
theorem RightP.shiftR_ok {xss : List (List Int)} {H : Nat} {f t : Int} (hR : RightP xss H) (h : (shiftL xss H f t).2 = 0) : shiftR xss H f t = ((shiftL xss H f t).1, (H : Int), 0) := by simp [shiftR, hR.b, h]
theorem RightP.shiftR_no {xss : List (List Int)} {H : Nat} {f t : Int} (hR : RightP xss H) (h : (shiftL xss H f t).2 ≠ 0) : shiftR xss H f t = ([], 0, (shiftL xss H f t).2) := by simp [shiftR, hR.b, h]
def playL (H : Nat) : List (List Int) → Nat → List (Int × Int) → List (List Int) × Nat × Int
  | xss, _, [] => (xss, 0, 0)
  | xss, i, m :: ms => if (shiftL xss H m.1 m.2).2 = 0 then playL H (shiftL xss H m.1 m.2).1 (i + 1) ms else ([], i, (shiftL xss H m.1 m.2).2)
theorem Row.blk_at {w : World} {k n j : Nat} {v : Value} {cs : List Value} (h : Row w k v n cs) (hj : j < cs.length) : ∀ b, vblk v = some b → b < w.heap.size := by
  obtain ⟨a, cap, rfl, _, _, h⟩ := h
  obtain ⟨p, rfl, hp⟩ := h j hj
  intro b hb
  simp [vblk] at hb
  subst hb
  have := cell_lt (hp.trans (List.getElem?_eq_getElem hj))
  rwa [add_block] at this
end Go.Proofs.Ytfdmndkoiheebaa
