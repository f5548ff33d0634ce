import Derived.Test.YtlplogplicgfiaaZ4Core
namespace Go.Proofs.Ytlplogplicgfiaa
open Go
structure Env where
  val : Nat → Value
  ms : List Nat
instance : CoeFun Env fun _ => Nat → Value := ⟨Env.val⟩
def upd (e : Env) (d : Nat) (v : Value) : Env := ⟨fun t => if t = d then v else e.val t, e.ms⟩
def updo (e : Env) : Option Tmp → Value → Env
  | some d, v => upd e d v
  | none, _ => e
def ev (e : Env) : Operand → Value
  | .tmp t => e.val t
  | .const v => v
  | .global g => .pointer (some ⟨g, 0, none⟩)
  | .func f => .func (.func f) #[] #[]
structure Mode where
  ro : Option Nat
  mm : Bool
def marksOf (l : List Nat) : List Deferred := l.map fun r => { target := .collected r, args := #[] }
structure Rep (md : Mode) (N : Nat) (a : Act) (e : Env) : Prop where
  size : a.tmps.size = N
  defers : a.defers = if md.mm then marksOf e.ms else []
  get : ∀ t, a.tmps.getD t undef = e.val t
theorem Rep.eval {md : Mode} {N : Nat} {a : Act} {e : Env} (h : Rep md N a e) : a.eval = ev e := by
  funext x
  cases x with
  | tmp t => exact h.get t
  | const v => rfl
  | global g => rfl
  | func f => rfl
theorem Rep.put {md : Mode} {N : Nat} {a : Act} {e : Env} (h : Rep md N a e) {d : Option Tmp} (hd : ∀ t, d = some t → t < N) (v : Value) : Rep md N (a.put d v) (updo e d v) := by
  cases d with
  | none => exact h
  | some d =>
    have hdN := hd d rfl; refine ⟨by simp [Act.put, h.size], by simp [Act.put, h.defers, updo, upd], fun t => ?_⟩; simp only [Act.put, updo, upd]; by_cases ht : t = d
    · subst ht; simp [h.size, hdN]
    · simp only [if_neg ht, ← h.get t, Array.getD_eq_getD_getElem?, Array.getElem?_setIfInBounds_ne (Ne.symm ht)]
def dstsOk (N : Nat) (ops : Array Oper) : Bool := ops.toList.all fun o => match o.dst with | some d => decide (d < N) | none => true
def wantedE (ops : Array Oper) (o : Oper) (e : Env) : Bool :=
  match o.guard with
  | none => true
  | some (j, want) =>
    match (ops[j]?).bind (·.dst) with
    | some t => (match e.val t with | .bool b => b == want | _ => false)
    | none => false
theorem Rep.wanted {md : Mode} {N : Nat} {a : Act} {e : Env} {ops : Array Oper} (h : Rep md N a e) (o : Oper) (hd : dstsOk N ops = true) : Region.wanted o (yielded ops a.tmps) = wantedE ops o e := by
  unfold Region.wanted wantedE
  cases o.guard with
  | none => rfl
  | some g =>
    obtain ⟨j, want⟩ := g; simp only [yielded]
    cases ht : (ops[j]?).bind (·.dst) with
    | none => simp
    | some t =>
      have htN : t < N := by
        cases ho : ops[j]? with
        | none => simp [ho] at ht
        | some p =>
          simp only [ho, Option.bind_some] at ht; have hm : p ∈ ops.toList := by simpa using Array.mem_of_getElem? ho
          have := List.all_eq_true.1 hd p hm; simpa [ht] using this
      have hg := h.get t; have hs : t < a.tmps.size := by rw [h.size]; exact htN
      simp only [Option.bind_some, Array.getElem?_eq_getElem hs]; simp only [Array.getD_eq_getD_getElem?, Array.getElem?_eq_getElem hs, Option.getD_some] at hg; rw [hg]; cases e.val t <;> simp
def wpR (P : Program) (ops : Array Oper) (S : Bool → Nat → Prop) (dr : Bool) (kd : Oper → Nat) (F : Env → World → Prop) : List Oper → Env → World → Prop
  | [], e, w => F e w
  | o :: rest, e, w =>
    if wantedE ops o e = true then
      ((dr = true → kd o ≤ 1) ∧ ∃ v, (∀ w', AgreeOn (S (kd o == 1)) w w' → (execOp (ev e) o).run P w' = .ok (.value v) w') ∧ wpR P ops S dr kd F rest (updo e o.dst v) w) ∨
      ((dr = true → 2 ≤ kd o) ∧ ∃ R, Loud P R ((execOp (ev e) o).run P w) ∧ ∀ v w', R v w' → (dr = true → AgreeOn (S false) w w' ∧ (kd o = 2 → AgreeOn (S true) w w')) ∧ wpR P ops S dr kd F rest (updo e o.dst v) w')
    else wpR P ops S dr kd F rest (updo e o.dst undef) w
section
variable {md : Mode} {P : Program} {ops : Array Oper} {S : Bool → Nat → Prop} {kd : Oper → Nat} {F : Env → World → Prop} {N : Nat}
theorem wpR_T (hd : dstsOk N ops = true) : ∀ (l : List Oper) (k : Nat), (∀ j, l[j]? = ops[k + j]?) → ∀ (e : Env) (w : World) (a : Act), Rep md N a e →
    wpR P ops S true kd F l e w → wpT P ops S (fun i => ((ops[i]?).map kd).getD 0) (fun a w => ∃ e, Rep md N a e ∧ F e w) (List.range' k l.length) a w := by
  intro l
  induction l with
  | nil => intro k _ e w a ha h; exact ⟨e, ha, h⟩
  | cons o l ih =>
    intro k hk e w a ha h; have h0 : ops[k]? = some o := by simpa using (hk 0).symm
    have ih' := ih (k + 1) (fun j => by have := hk (j + 1); simpa [Nat.add_assoc, Nat.add_comm 1 j] using this); have hdo : ∀ t, o.dst = some t → t < N := by
      intro t ht; have hm : o ∈ ops.toList := by simpa using Array.mem_of_getElem? h0
      have := List.all_eq_true.1 hd o hm; simpa [ht] using this
    rw [List.length_cons, List.range'_succ, wpT_cons h0, ha.wanted o hd, ha.eval]; simp only [wpR] at h; have hkd : ((ops[k]?).map kd).getD 0 = kd o := by simp [h0]
    simp only [hkd]; by_cases hw : wantedE ops o e = true
    · simp only [hw, if_true] at h ⊢; rcases h with ⟨hl, v, hv, hn⟩ | ⟨hl, R, hR, hn⟩
      · have hl' : ¬ 2 ≤ kd o := by have := hl trivial; omega
        simp only [hl', if_false]; exact ⟨v, hv, ih' _ _ _ (ha.put hdo v) hn⟩
      · have hl' : 2 ≤ kd o := hl trivial; simp only [hl', if_true]; exact ⟨R, hR, fun v w' r => ⟨(hn v w' r).1 trivial, ih' _ _ _ (ha.put hdo v) (hn v w' r).2⟩⟩
    · simp only [hw, if_false, Bool.false_eq_true] at h ⊢; exact ih' _ _ _ (ha.put hdo undef) h
theorem wpR_plain (hd : dstsOk N ops = true) {Q : Exit → Act → World → Prop} (hQ : ∀ a e w, Rep md N a e → F e w → Q .normal a w) :
    ∀ (l : List Oper) (k : Nat), (∀ j, l[j]? = ops[k + j]?) → ∀ (e : Env) (w : World) (a : Act), Rep md N a e →
    wpR P ops S false kd F l e w → wpOpsIn (FR md.ro) 0 P ops Q (List.range' k l.length) a w := by
  intro l
  induction l with
  | nil => intro k _ e w a ha h; exact hQ a e w ha h
  | cons o l ih =>
    intro k hk e w a ha h; have h0 : ops[k]? = some o := by simpa using (hk 0).symm
    have ih' := ih (k + 1) (fun j => by have := hk (j + 1); simpa [Nat.add_assoc, Nat.add_comm 1 j] using this); have hdo : ∀ t, o.dst = some t → t < N := by
      intro t ht; have hm : o ∈ ops.toList := by simpa using Array.mem_of_getElem? h0
      have := List.all_eq_true.1 hd o hm; simpa [ht] using this
    rw [List.length_cons, List.range'_succ, wpOpsIn_cons]; unfold wpOpIn; simp only [h0, ha.wanted o hd]; simp only [wpR] at h; by_cases hw : wantedE ops o e = true
    · simp only [hw, if_true] at h ⊢; refine ⟨fun _ _ => trivial, ?_⟩; rw [ha.eval]; rcases h with ⟨_, v, hv, hn⟩ | ⟨_, R, hR, hn⟩
      · have hv0 := hv w (AgreeOn.refl w); rw [semAt_value hv0, hv0]; exact ih' _ _ _ (ha.put hdo v) hn
      · rw [semAt_loud hR]; exact hR.upon fun v w' r => ih' _ _ _ (ha.put hdo v) (hn v w' r).2
    · simp only [hw, if_false, Bool.false_eq_true] at h ⊢; exact ⟨fun _ _ => trivial, ih' _ _ _ (ha.put hdo undef) h⟩
end
def wpE (md : Mode) (P : Program) (N : Nat) (c : Code) (Q : Exit → Env → World → Prop) (e : Env) (w : World) : Prop :=
  ∀ a, Rep md N a e → c.wpIn (FR md.ro) 0 P (fun x a' w' => ∃ e', Rep md N a' e' ∧ Q x e' w') a w
namespace E
variable {md : Mode} {P : Program} {N : Nat} {Q : Exit → Env → World → Prop} {e : Env} {w : World}
theorem mono {c : Code} {Q' : Exit → Env → World → Prop} (hq : ∀ x e w, Q x e w → Q' x e w) (h : wpE md P N c Q e w) : wpE md P N c Q' e w :=
  fun a ha => wpIn_mono (h a ha) fun x _ w' ⟨e', r, q⟩ => ⟨e', r, hq x e' w' q⟩
theorem skip (h : Q .normal e w) : wpE md P N .skip Q e w := fun _ ha => wpIn_skip ⟨e, ha, h⟩
theorem ret (h : Q .ret e w) : wpE md P N .ret Q e w := fun _ ha => wpIn_ret ⟨e, ha, h⟩
theorem exit {id : Nat} (h : Q (.exit id) e w) : wpE md P N (.exit id) Q e w := fun _ ha => wpIn_exit ⟨e, ha, h⟩
def thn (next : Env → World → Prop) (Q : Exit → Env → World → Prop) : Exit → Env → World → Prop
  | .normal, e, w => next e w
  | x, e, w => Q x e w
theorem seq {x y : Code} (h : wpE md P N x (thn (fun e w => wpE md P N y Q e w) Q) e w) : wpE md P N (.seq x y) Q e w := fun a ha => by
  refine wpIn_seq (wpIn_mono (h a ha) fun ex a' w' ⟨e', r, q⟩ => ?_); cases ex
  case normal => exact q a' r
  all_goals exact ⟨e', r, q⟩
theorem condT {c : Operand} {x y : Code} (hc : ev e c = .bool true) (h : wpE md P N x Q e w) : wpE md P N (.cond c x y) Q e w := fun a ha =>
  wpIn_cond_true (by rw [ha.eval]; exact hc) (h a ha)
theorem condF {c : Operand} {x y : Code} (hc : ev e c = .bool false) (h : wpE md P N y Q e w) : wpE md P N (.cond c x y) Q e w := fun a ha =>
  wpIn_cond_false (by rw [ha.eval]; exact hc) (h a ha)
theorem cond {c : Operand} {x y : Code} {b : Bool} (hc : ev e c = .bool b) (ht : b = true → wpE md P N x Q e w) (hf : b = false → wpE md P N y Q e w) : wpE md P N (.cond c x y) Q e w := by
  cases b
  · exact condF hc (hf rfl)
  · exact condT hc (ht rfl)
def blk (id : Nat) (Q : Exit → Env → World → Prop) : Exit → Env → World → Prop
  | .exit id', e, w => if id' = id then Q .normal e w else Q (.exit id') e w
  | x, e, w => Q x e w
theorem block {id : Nat} {c : Code} (h : wpE md P N c (blk id Q) e w) : wpE md P N (.block id c) Q e w := fun a ha => by
  refine wpIn_block (wpIn_mono (h a ha) fun ex a' w' ⟨e', r, q⟩ => ?_); cases ex
  case exit id' =>
    simp only [blk] at q; simp only [Exit.inBlock]
    split
    · rename_i hid; rw [if_pos hid] at q; exact ⟨e', r, q⟩
    · rename_i hid; rw [if_neg hid] at q; exact ⟨e', r, q⟩
  all_goals exact ⟨e', r, q⟩
theorem loop {c : Code} (I : Nat → Env → World → Prop) (m : Nat) (h0 : I m e w)
    (round : ∀ n e w, I n e w → wpE md P N c (thn (fun e' w' => ∃ n', n' < n ∧ I n' e' w') Q) e w) : wpE md P N (.loop c) Q e w := by
  intro a ha b k cs hro hb hr; have key : ∀ n e w a, Rep md N a e → I n e w →
      ∃ x a' w', (∃ e', Rep md N a' e' ∧ Q x e' w') ∧ ArrivesIn (Machine.fenced P (FR md.ro)) P (lone (b.atR a (.code c :: .inLoop c :: k)) cs w) b k cs x a' w' := by
    intro n
    induction n using Nat.strongRecOn with
    | _ n ih =>
      intro e w a ha hI; obtain ⟨x, a₁, w₁, ⟨e₁, r₁, hq⟩, harr⟩ := round n e w hI a ha b (.inLoop c :: k) cs hro hb hr
      cases x with
      | normal =>
        obtain ⟨n', hlt, hI₁⟩ := hq; obtain ⟨e₂, a₂, w₂, hq₂, harr₂⟩ := ih n' hlt e₁ w₁ a₁ r₁ hI₁; exact ⟨e₂, a₂, w₂, hq₂, .of_steps (StepsIn.trans harr (.one (fenced_calm hb hr rfl) stepR_inLoop)) harr₂⟩
      | exit id => exact ⟨_, a₁, w₁, ⟨e₁, r₁, hq⟩, .pass (x := .inLoop c) rfl (fun _ _ => .inl (by simp)) harr⟩
      | goto l => exact ⟨_, a₁, w₁, ⟨e₁, r₁, hq⟩, .pass (x := .inLoop c) rfl (fun _ _ => .inl (by simp)) harr⟩
      | ret => exact ⟨_, a₁, w₁, ⟨e₁, r₁, hq⟩, .pass (x := .inLoop c) rfl (fun _ _ => .inl (by simp)) harr⟩
      | panic ch => exact ⟨_, a₁, w₁, ⟨e₁, r₁, hq⟩, .pass (x := .inLoop c) rfl (fun _ _ => .inl (by simp)) harr⟩
      | outgrown => exact ⟨_, a₁, w₁, ⟨e₁, r₁, hq⟩, .pass (x := .inLoop c) rfl (fun _ _ => .inl (by simp)) harr⟩
  obtain ⟨x, a', w', hq, harr⟩ := key m e w a ha h0; exact ⟨x, a', w', hq, .of_steps (.one (fenced_calm hb hr rfl) stepR_loop) harr⟩
theorem region {id : Nat} {l : List Oper} (S : Bool → Nat → Prop) (kd : Oper → Nat) (hd : dstsOk N l.toArray = true)
    (h : wpR P l.toArray S false kd (Q .normal) l e w) : wpE md P N (.region id l.toArray false) Q e w := fun a ha => by
  refine wpIn_region ?_; have := wpR_plain (md := md) hd (Q := fun x a' w' => ∃ e', Rep md N a' e' ∧ Q x e' w') (fun a e w r f => ⟨e, r, f⟩) l 0 (by simp) e w a ha h; rw [List.range_eq_range']; simpa using this
theorem regionD {id : Nat} {l : List Oper} (S : Bool → Nat → Prop) (kd : Oper → Nat) (hm : P.follows .mixedOrders = true) (hd : dstsOk N l.toArray = true)
    (hc : chk l.toArray (fun i => ((l.toArray[i]?).map kd).getD 0) = true)
    (h : wpR P l.toArray S true kd (Q .normal) l e w.drew) : wpE md P N (.region id l.toArray true) Q e w := fun a ha => by
  refine wp_region_text (S := S) hm hc ?_; have := wpR_T (md := md) hd l 0 (by simp) e w.drew a ha h; rw [List.range_eq_range']; simpa using this
end E
def env0 (args : List Value) : Env := ⟨fun t => args.getD t undef, []⟩
def bodyE (P : Program) (fn : Func) (R : Ending → World → Prop) : Exit → Env → World → Prop
  | .normal, e, w | .ret, e, w => ∃ v, (∀ tmps : Array Value, (∀ t, tmps.getD t undef = e.val t) → (results fn tmps).run P w = .ok v w) ∧ R (.returned v) w
  | _, _, _ => False
theorem rep0 {mm : Bool} {N : Nat} {args : List Value} (hl : args.length ≤ N) : Rep ⟨none, mm⟩ N { tmps := args.toArray ++ Array.replicate (N - args.toArray.size) undef, defers := [] } (env0 args) := by
  refine ⟨by simp; omega, by cases mm <;> rfl, fun t => ?_⟩; simp only [env0, Array.getD_eq_getD_getElem?, List.getD_eq_getElem?_getD]; by_cases ht : t < args.length
  · rw [Array.getElem?_append_left (by simpa using ht)]; simp
  · rw [Array.getElem?_append_right (by simp; omega)]; rw [List.getElem?_eq_none (by omega)]; by_cases h2 : t - args.length < N - args.length
    · simp [h2]
    · simp [h2]
theorem calls_E {P : Program} {f : FuncId} {fn : Func} {c : Code} {args : List Value} {w : World} {R : Ending → World → Prop} (N : Nat)
    (hf : P.funcs[f]? = some fn) (hb : fn.body = some c) (hN : fn.ntmps = N) (hl : args.length ≤ N)
    (h : wpE ⟨none, false⟩ P N c (bodyE P fn R) (env0 args) w) : Calls P f args.toArray w R := by
  subst hN; refine calls_of_wp hf hb (wpIn_wide.1 (wpIn_mono (h _ (rep0 hl)) fun x a' w' ⟨e', r, q⟩ => ?_)); cases x
  case normal => obtain ⟨v, hr, hR⟩ := q; exact ⟨r.defers, v, hr _ r.get, hR⟩
  case ret => obtain ⟨v, hr, hR⟩ := q; exact ⟨r.defers, v, hr _ r.get, hR⟩
  all_goals exact q.elim
def Takes (P : Program) : List Nat → World → World → Prop
  | [], w, w' => w' = w
  | D :: Ds, w, w' => ∃ w1, (Instr.takeDeferred D).run P w = .ok [] w1 ∧ Takes P Ds w1 w'
def bodyM (P : Program) (fn : Func) (R : Ending → World → Prop) : Exit → Env → World → Prop
  | .normal, e, w | .ret, e, w => ∃ w' v, Takes P e.ms w w' ∧ (∀ tmps : Array Value, (∀ t, tmps.getD t undef = e.val t) → (results fn tmps).run P w' = .ok v w') ∧ R (.returned v) w'
  | _, _, _ => False
theorem leaves_of {P : Program} {fn : Func} {tmps : Array Value} {R : Ending → World → Prop} : ∀ (Ds : List Nat) (w w' : World) (v : Value), Takes P Ds w w' → (results fn tmps).run P w' = .ok v w' → R (.returned v) w' →
    LeavesInM (FR none) 0 P fn tmps R (marksOf Ds) .returning w
  | [], w, w', v, ht, hr, hR => by
    have : w' = w := ht; subst this; exact ⟨v, hr, hR⟩
  | D :: Ds, w, w', v, ⟨w1, h1, h2⟩, hr, hR => ⟨by simp, .inl ⟨D, w1, rfl, h1, leaves_of Ds w1 w' v h2 hr hR⟩⟩
theorem calls_M {P : Program} {f : FuncId} {fn : Func} {c : Code} {args : List Value} {w : World} {R : Ending → World → Prop} (N : Nat)
    (hf : P.funcs[f]? = some fn) (hb : fn.body = some c) (hN : fn.ntmps = N) (hl : args.length ≤ N)
    (h : wpE ⟨none, true⟩ P N c (bodyM P fn R) (env0 args) w) : Calls P f args.toArray w R := by
  subst hN; refine callsIn_FR.1 (callsIn_of_wp_marks (F := FR none) hf hb trivial (wpIn_mono (h _ (rep0 hl)) fun x a' w' ⟨e', r, q⟩ => ?_)); have hd := r.defers; simp only [if_true] at hd; cases x
  case normal => obtain ⟨w2, v, ht, hr, hR⟩ := q; simp only [bodyPostM]; rw [hd]; exact leaves_of e'.ms w' w2 v ht (hr _ r.get) hR
  case ret => obtain ⟨w2, v, ht, hr, hR⟩ := q; simp only [bodyPostM]; rw [hd]; exact leaves_of e'.ms w' w2 v ht (hr _ r.get) hR
  all_goals exact q.elim
end Go.Proofs.Ytlplogplicgfiaa
