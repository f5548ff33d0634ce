/- The walk over environments: slots as a function, code by rules. -/
import Derived.Test.YtfdmndkoiheebaaCore
namespace Go.Proofs.Ytfdmndkoiheebaa
open Go

abbrev Env := Nat → Value
def upd (e : Env) (d : Nat) (v : Value) : Env := fun t => if t = d then v else e t
def updo (e : Env) : Option Tmp → Value → Env
  | some d, v => upd e d v
  | none, _ => e
def ev (e : Env) : Operand → Value
  | .tmp t => e t
  | .const v => v
  | .global g => .pointer (some ⟨g, 0, none⟩)
  | .func f => .func (.func f) #[] #[]

structure Rep (N : Nat) (a : Act) (e : Env) : Prop where
  size : a.tmps.size = N
  defers : a.defers = []
  get : ∀ t, a.tmps.getD t undef = e t

theorem Rep.eval {N : Nat} {a : Act} {e : Env} (h : Rep N a e) : a.eval = ev e := by
  funext x
  cases x with
  | tmp t => exact h.get t
  | const v => rfl
  | global g => rfl
  | func f => rfl

theorem Rep.put {N : Nat} {a : Act} {e : Env} (h : Rep N a e) {d : Option Tmp} (hd : ∀ t, d = some t → t < N) (v : Value) : Rep N (a.put d v) (updo e d v) := by
  cases d with
  | none => exact h
  | some d =>
    have hdN := hd d rfl
    refine ⟨by simp [Act.put, h.size], by simp [Act.put, h.defers], fun t => ?_⟩
    simp only [Act.put, updo, upd]
    by_cases ht : t = d
    · subst ht; simp [h.size, hdN]
    · simp only [if_neg ht, ← h.get t, Array.getD_eq_getD_getElem?, Array.getElem?_setIfInBounds_ne (Ne.symm ht)]

def dstsOk (N : Nat) (ops : Array Oper) : Bool := ops.toList.all fun o => match o.dst with | some d => decide (d < N) | none => true

def wantedE (ops : Array Oper) (o : Oper) (e : Env) : Bool :=
  match o.guard with
  | none => true
  | some (j, want) =>
    match (ops[j]?).bind (·.dst) with
    | some t => (match e t with | .bool b => b == want | _ => false)
    | none => false

theorem Rep.wanted {N : Nat} {a : Act} {e : Env} {ops : Array Oper} (h : Rep N a e) (o : Oper) (hd : dstsOk N ops = true) : Region.wanted o (yielded ops a.tmps) = wantedE ops o e := by
  unfold Region.wanted wantedE
  cases o.guard with
  | none => rfl
  | some g =>
    obtain ⟨j, want⟩ := g
    simp only [yielded]
    cases ht : (ops[j]?).bind (·.dst) with
    | none => simp
    | some t =>
      have htN : t < N := by
        cases ho : ops[j]? with
        | none => simp [ho] at ht
        | some p =>
          simp only [ho, Option.bind_some] at ht
          have hm : p ∈ ops.toList := by simpa using Array.mem_of_getElem? ho
          have := List.all_eq_true.1 hd p hm
          simpa [ht] using this
      have hg := h.get t
      have hs : t < a.tmps.size := by rw [h.size]; exact htN
      simp only [Option.bind_some, Array.getElem?_eq_getElem hs]
      simp only [Array.getD_eq_getD_getElem?, Array.getElem?_eq_getElem hs, Option.getD_some] at hg
      rw [hg]
      cases e t <;> simp

def wpR (P : Program) (ops : Array Oper) (S : Bool → Nat → Prop) (dr : Bool) (kd : Oper → Nat) (F : Env → World → Prop) : List Oper → Env → World → Prop
  | [], e, w => F e w
  | o :: rest, e, w =>
    if wantedE ops o e = true then
      ((dr = true → kd o ≤ 1) ∧ ∃ v, (∀ w', AgreeOn (S (kd o == 1)) w w' → (execOp (ev e) o).run P w' = .ok (.value v) w') ∧ wpR P ops S dr kd F rest (updo e o.dst v) w) ∨
      ((dr = true → 2 ≤ kd o) ∧ ∃ R, Loud P R ((execOp (ev e) o).run P w) ∧ ∀ v w', R v w' → (dr = true → AgreeOn (S false) w w' ∧ (kd o = 2 → AgreeOn (S true) w w')) ∧ wpR P ops S dr kd F rest (updo e o.dst v) w')
    else wpR P ops S dr kd F rest (updo e o.dst undef) w

section
variable {P : Program} {ops : Array Oper} {S : Bool → Nat → Prop} {kd : Oper → Nat} {F : Env → World → Prop} {N : Nat}

theorem wpR_T (hd : dstsOk N ops = true) : ∀ (l : List Oper) (k : Nat), (∀ j, l[j]? = ops[k + j]?) → ∀ (e : Env) (w : World) (a : Act), Rep N a e →
    wpR P ops S true kd F l e w → wpT P ops S (fun i => ((ops[i]?).map kd).getD 0) (fun a w => ∃ e, Rep N a e ∧ F e w) (List.range' k l.length) a w := by
  intro l
  induction l with
  | nil => intro k _ e w a ha h; exact ⟨e, ha, h⟩
  | cons o l ih =>
    intro k hk e w a ha h
    have h0 : ops[k]? = some o := by simpa using (hk 0).symm
    have ih' := ih (k + 1) (fun j => by have := hk (j + 1); simpa [Nat.add_assoc, Nat.add_comm 1 j] using this)
    have hdo : ∀ t, o.dst = some t → t < N := by
      intro t ht
      have hm : o ∈ ops.toList := by simpa using Array.mem_of_getElem? h0
      have := List.all_eq_true.1 hd o hm
      simpa [ht] using this
    rw [List.length_cons, List.range'_succ, wpT_cons h0, ha.wanted o hd, ha.eval]
    simp only [wpR] at h
    have hkd : ((ops[k]?).map kd).getD 0 = kd o := by simp [h0]
    simp only [hkd]
    by_cases hw : wantedE ops o e = true
    · simp only [hw, if_true] at h ⊢
      rcases h with ⟨hl, v, hv, hn⟩ | ⟨hl, R, hR, hn⟩
      · have hl' : ¬ 2 ≤ kd o := by have := hl trivial; omega
        simp only [hl', if_false]
        exact ⟨v, hv, ih' _ _ _ (ha.put hdo v) hn⟩
      · have hl' : 2 ≤ kd o := hl trivial
        simp only [hl', if_true]
        exact ⟨R, hR, fun v w' r => ⟨(hn v w' r).1 trivial, ih' _ _ _ (ha.put hdo v) (hn v w' r).2⟩⟩
    · simp only [hw, if_false, Bool.false_eq_true] at h ⊢
      exact ih' _ _ _ (ha.put hdo undef) h

theorem wpR_plain (hd : dstsOk N ops = true) {Q : Exit → Act → World → Prop} (hQ : ∀ a e w, Rep N a e → F e w → Q .normal a w) :
    ∀ (l : List Oper) (k : Nat), (∀ j, l[j]? = ops[k + j]?) → ∀ (e : Env) (w : World) (a : Act), Rep N a e →
    wpR P ops S false kd F l e w → wpOps P ops Q (List.range' k l.length) a w := by
  intro l
  induction l with
  | nil => intro k _ e w a ha h; exact hQ a e w ha h
  | cons o l ih =>
    intro k hk e w a ha h
    have h0 : ops[k]? = some o := by simpa using (hk 0).symm
    have ih' := ih (k + 1) (fun j => by have := hk (j + 1); simpa [Nat.add_assoc, Nat.add_comm 1 j] using this)
    have hdo : ∀ t, o.dst = some t → t < N := by
      intro t ht
      have hm : o ∈ ops.toList := by simpa using Array.mem_of_getElem? h0
      have := List.all_eq_true.1 hd o hm
      simpa [ht] using this
    rw [List.length_cons, List.range'_succ, wpOps_cons]
    unfold wpOp
    simp only [h0, ha.wanted o hd]
    simp only [wpR] at h
    by_cases hw : wantedE ops o e = true
    · simp only [hw, if_true] at h ⊢
      refine .inl ?_
      unfold Oper.wp
      rw [ha.eval]
      rcases h with ⟨_, v, hv, hn⟩ | ⟨_, R, hR, hn⟩
      · rw [hv w (AgreeOn.refl w)]
        exact ih' _ _ _ (ha.put hdo v) hn
      · exact hR.upon fun v w' r => ih' _ _ _ (ha.put hdo v) (hn v w' r).2
    · simp only [hw, if_false, Bool.false_eq_true] at h ⊢
      exact ih' _ _ _ (ha.put hdo undef) h
end

/-- The code's weakest precondition over environments. -/
def wpE (P : Program) (N : Nat) (c : Code) (Q : Exit → Env → World → Prop) (e : Env) (w : World) : Prop :=
  ∀ a, Rep N a e → c.wp P (fun x a' w' => ∃ e', Rep N a' e' ∧ Q x e' w') a w

namespace E
variable {P : Program} {N : Nat} {Q : Exit → Env → World → Prop} {e : Env} {w : World}

theorem mono {c : Code} {Q' : Exit → Env → World → Prop} (hq : ∀ x e w, Q x e w → Q' x e w) (h : wpE P N c Q e w) : wpE P N c Q' e w :=
  fun a ha => wp_mono (h a ha) fun x _ w' ⟨e', r, q⟩ => ⟨e', r, hq x e' w' q⟩

theorem skip (h : Q .normal e w) : wpE P N .skip Q e w := fun _ ha => wp_skip ⟨e, ha, h⟩
theorem label {l : Nat} (h : Q .normal e w) : wpE P N (.label l) Q e w := fun _ ha => wp_label ⟨e, ha, h⟩
theorem ret (h : Q .ret e w) : wpE P N .ret Q e w := fun _ ha => wp_ret ⟨e, ha, h⟩
theorem exit {id : Nat} (h : Q (.exit id) e w) : wpE P N (.exit id) Q e w := fun _ ha => wp_exit ⟨e, ha, h⟩

/-- What comes behind: normally 'next', else Q. -/
def thn (next : Env → World → Prop) (Q : Exit → Env → World → Prop) : Exit → Env → World → Prop
  | .normal, e, w => next e w
  | x, e, w => Q x e w

theorem seq {x y : Code} (h : wpE P N x (thn (fun e w => wpE P N y Q e w) Q) e w) : wpE P N (.seq x y) Q e w := fun a ha => by
  refine wp_seq (wp_mono (h a ha) fun ex a' w' ⟨e', r, q⟩ => ?_)
  cases ex
  case normal => exact q a' r
  all_goals exact ⟨e', r, q⟩

theorem condT {c : Operand} {x y : Code} (hc : ev e c = .bool true) (h : wpE P N x Q e w) : wpE P N (.cond c x y) Q e w := fun a ha =>
  wp_cond_true (by rw [ha.eval]; exact hc) (h a ha)
theorem condF {c : Operand} {x y : Code} (hc : ev e c = .bool false) (h : wpE P N y Q e w) : wpE P N (.cond c x y) Q e w := fun a ha =>
  wp_cond_false (by rw [ha.eval]; exact hc) (h a ha)
theorem cond {c : Operand} {x y : Code} {b : Bool} (hc : ev e c = .bool b) (ht : b = true → wpE P N x Q e w) (hf : b = false → wpE P N y Q e w) : wpE P N (.cond c x y) Q e w := by
  cases b
  · exact condF hc (hf rfl)
  · exact condT hc (ht rfl)

/-- Leaving a block. -/
def blk (id : Nat) (Q : Exit → Env → World → Prop) : Exit → Env → World → Prop
  | .exit id', e, w => if id' = id then Q .normal e w else Q (.exit id') e w
  | x, e, w => Q x e w

theorem block {id : Nat} {c : Code} (h : wpE P N c (blk id Q) e w) : wpE P N (.block id c) Q e w := fun a ha => by
  refine wp_block (wp_mono (h a ha) fun ex a' w' ⟨e', r, q⟩ => ?_)
  cases ex
  case exit id' =>
    simp only [blk] at q
    simp only [Exit.inBlock]
    split
    · rename_i hid; rw [if_pos hid] at q; exact ⟨e', r, q⟩
    · rename_i hid; rw [if_neg hid] at q; exact ⟨e', r, q⟩
  all_goals exact ⟨e', r, q⟩

/-- A loop with an invariant that bears its measure. -/
theorem loop {c : Code} (I : Nat → Env → World → Prop) (m : Nat) (h0 : I m e w)
    (round : ∀ n e w, I n e w → wpE P N c (thn (fun e' w' => ∃ n', n' < n ∧ I n' e' w') Q) e w) : wpE P N (.loop c) Q e w := by
  intro a ha b k cs
  have key : ∀ n e w a, Rep N a e → I n e w →
      ∃ x a' w', (∃ e', Rep N a' e' ∧ Q x e' w') ∧ Arrives P (lone (b.at a (.code c :: .inLoop c :: k)) cs w) b k cs x a' w' := by
    intro n
    induction n using Nat.strongRecOn with
    | _ n ih =>
      intro e w a ha hI
      obtain ⟨x, a₁, w₁, ⟨e₁, r₁, hq⟩, harr⟩ := round n e w hI a ha b (.inLoop c :: k) cs
      cases x with
      | normal =>
        obtain ⟨n', hlt, hI₁⟩ := hq
        obtain ⟨e₂, a₂, w₂, hq₂, harr₂⟩ := ih n' hlt e₁ w₁ a₁ r₁ hI₁
        exact ⟨e₂, a₂, w₂, hq₂, .of_steps (Steps.trans harr (.one step_inLoop)) harr₂⟩
      | exit id => exact ⟨_, a₁, w₁, ⟨e₁, r₁, hq⟩, .pass (x := .inLoop c) rfl (fun _ _ => .inl (by simp)) harr⟩
      | goto l => exact ⟨_, a₁, w₁, ⟨e₁, r₁, hq⟩, .pass (x := .inLoop c) rfl (fun _ _ => .inl (by simp)) harr⟩
      | ret => exact ⟨_, a₁, w₁, ⟨e₁, r₁, hq⟩, .pass (x := .inLoop c) rfl (fun _ _ => .inl (by simp)) harr⟩
      | panic ch => exact ⟨_, a₁, w₁, ⟨e₁, r₁, hq⟩, .pass (x := .inLoop c) rfl (fun _ _ => .inl (by simp)) harr⟩
      | outgrown => exact ⟨_, a₁, w₁, ⟨e₁, r₁, hq⟩, .pass (x := .inLoop c) rfl (fun _ _ => .inl (by simp)) harr⟩
  obtain ⟨x, a', w', hq, harr⟩ := key m e w a ha h0
  exact ⟨x, a', w', hq, .of_steps (.one step_loop) harr⟩

theorem region {id : Nat} {l : List Oper} (S : Bool → Nat → Prop) (kd : Oper → Nat) (hd : dstsOk N l.toArray = true)
    (h : wpR P l.toArray S false kd (Q .normal) l e w) : wpE P N (.region id l.toArray false) Q e w := fun a ha => by
  refine wp_region ?_
  have := wpR_plain hd (Q := fun x a' w' => ∃ e', Rep N a' e' ∧ Q x e' w') (fun a e w r f => ⟨e, r, f⟩) l 0 (by simp) e w a ha h
  rw [List.range_eq_range']
  simpa using this

theorem regionD {id : Nat} {l : List Oper} (S : Bool → Nat → Prop) (kd : Oper → Nat) (hm : P.follows .mixedOrders = true) (hd : dstsOk N l.toArray = true)
    (hc : chk l.toArray (fun i => ((l.toArray[i]?).map kd).getD 0) = true)
    (h : wpR P l.toArray S true kd (Q .normal) l e w.drew) : wpE P N (.region id l.toArray true) Q e w := fun a ha => by
  refine wp_region_text (S := S) hm hc ?_
  have := wpR_T hd l 0 (by simp) e w.drew a ha h
  rw [List.range_eq_range']
  simpa using this
end E

/-- The environment at a call. -/
def env0 (args : List Value) : Env := fun t => args.getD t undef

/-- What a body must come to. -/
def bodyE (P : Program) (fn : Func) (R : Ending → World → Prop) : Exit → Env → World → Prop
  | .normal, e, w | .ret, e, w => ∃ v, (∀ tmps : Array Value, (∀ t, tmps.getD t undef = e t) → (results fn tmps).run P w = .ok v w) ∧ R (.returned v) w
  | _, _, _ => False

theorem calls_E {P : Program} {f : FuncId} {fn : Func} {c : Code} {args : List Value} {w : World} {R : Ending → World → Prop} (N : Nat)
    (hf : P.funcs[f]? = some fn) (hb : fn.body = some c) (hN : fn.ntmps = N) (hl : args.length ≤ N)
    (h : wpE P N c (bodyE P fn R) (env0 args) w) : Calls P f args.toArray w R := by
  refine calls_of_wp hf hb ?_
  have ha : Rep N { tmps := args.toArray ++ Array.replicate (fn.ntmps - args.toArray.size) undef, defers := [] } (env0 args) := by
    refine ⟨by simp [hN]; omega, rfl, fun t => ?_⟩
    simp only [env0, Array.getD_eq_getD_getElem?, List.getD_eq_getElem?_getD]
    by_cases ht : t < args.length
    · rw [Array.getElem?_append_left (by simpa using ht)]; simp
    · rw [Array.getElem?_append_right (by simp; omega)]
      rw [List.getElem?_eq_none (by omega)]
      by_cases h2 : t - args.length < fn.ntmps - args.length
      · simp [h2]
      · simp [h2]
  refine wp_mono (h _ ha) fun x a' w' ⟨e', r, q⟩ => ?_
  cases x
  case normal => obtain ⟨v, hr, hR⟩ := q; exact ⟨r.defers, v, hr _ r.get, hR⟩
  case ret => obtain ⟨v, hr, hR⟩ := q; exact ⟨r.defers, v, hr _ r.get, hR⟩
  all_goals exact q.elim

end Go.Proofs.Ytfdmndkoiheebaa
