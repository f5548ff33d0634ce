import Derived.Test.YtfdmndkoiheebaaZ16Core2
import Derived.Test.YtfdmndkoiheebaaZ16A1
namespace Go.Proofs.Ytfdmndkoiheebaa
open Go
def kindF (B C : List Nat) (o : Oper) : Nat :=
  match o.op with
  | .alloc _ | .buildSlice .. => 4
  | .call { callee := .builtin b, .. } => (match b with | .len | .cap | .min | .max => 0 | _ => (match o.dst with | some d => (if C.contains d then 2 else 3) | none => 3))
  | .call _ => (match o.dst with | some d => (if C.contains d then 2 else 3) | none => 3)
  | _ => kind B o
def wpG (P : Program) (ops : Array Oper) (N0 : Nat) (S : Bool → Nat → Prop) (kd : Oper → Nat) (F : Env → World → Prop) : List Oper → (Nat → Prop) → Env → World → Prop
  | [], _, e, w => F e w
  | o :: rest, K, e, w =>
    if wantedE ops o e = true then
      (kd o = 4 ∧ ∃ (obj : Obj) (vf : Nat → Value), (∀ w1, (execOp (ev e) o).run P w1 = .ok (.value (vf w1.heap.size)) (w1.alloc obj)) ∧
        ∀ w1 b, Ext w w1 → N0 ≤ b → ¬ K b → w1.heap[b]? = some obj → wpG P ops N0 S kd F rest (fun x => K x ∨ x = b) (updo e o.dst (vf b)) w1) ∨
      ((kd o = 2 ∨ kd o = 3) ∧ ∀ w1, Ext w w1 → ∃ R, Loud P R ((execOp (ev e) o).run P w1) ∧ ∀ v w', R v w' →
        (AgreeOn (S false) w1 w' ∧ (kd o = 2 → AgreeOn (S true) w1 w') ∧ AgreeOn (junk N0 K w1) w1 w' ∧ w1.heap.size ≤ w'.heap.size) ∧ wpG P ops N0 S kd F rest (fun x => K x ∨ (w1.heap.size ≤ x ∧ x < w'.heap.size)) (updo e o.dst v) w') ∨
      (kd o ≤ 1 ∧ ∃ v, (∀ w', AgreeOn (S (kd o == 1)) w w' → (execOp (ev e) o).run P w' = .ok (.value v) w') ∧ wpG P ops N0 S kd F rest K (updo e o.dst v) w)
    else wpG P ops N0 S kd F rest K (updo e o.dst undef) w
section
variable {P : Program} {ops : Array Oper} {N0 : Nat} {S : Bool → Nat → Prop} {kd : Oper → Nat} {F : Env → World → Prop} {N : Nat}
theorem wpG_F {md : Mode} (hd : dstsOk N ops = true) : ∀ (l : List Oper) (k : Nat), (∀ j, l[j]? = ops[k + j]?) → ∀ (K : Nat → Prop) (e : Env) (w : World) (a : Act), Rep md N a e →
    wpG P ops N0 S kd F l K e w → wpF P ops N0 S (fun i => ((ops[i]?).map kd).getD 0) (fun a w => ∃ e, Rep md N a e ∧ F e w) (List.range' k l.length) K a w := by
  intro l
  induction l with
  | nil => intro k _ K e w a ha h; exact ⟨e, ha, h⟩
  | cons o l ih =>
    intro k hk K e w a ha h
    have h0 : ops[k]? = some o := by simpa using (hk 0).symm
    have ih' := ih (k + 1) (fun j => by have := hk (j + 1); simpa [Nat.add_assoc, Nat.add_comm 1 j] using this)
    have hdo : ∀ t, o.dst = some t → t < N := by
      intro t ht
      have hm : o ∈ ops.toList := by simpa using Array.mem_of_getElem? h0
      have := List.all_eq_true.1 hd o hm
      simpa [ht] using this
    rw [List.length_cons, List.range'_succ, wpF_cons h0]
    have hkd : ((ops[k]?).map kd).getD 0 = kd o := by simp [h0]
    simp only [stepF, ha.wanted o hd, ha.eval, hkd]
    simp only [wpG] at h
    by_cases hw : wantedE ops o e = true
    · simp only [hw, if_true] at h ⊢
      rcases h with ⟨h4, obj, vf, hr, hn⟩ | ⟨h23, hn⟩ | ⟨hl, v, hv, hn⟩
      · have e4 := eq_true h4
        simp only [e4, if_true]
        exact ⟨obj, vf, hr, fun w1 b u hb hk ho => ih' _ _ _ _ (ha.put hdo _) (hn w1 b u hb hk ho)⟩
      · have h4 : ¬ kd o = 4 := by omega
        have h2 : 2 ≤ kd o := by omega
        simp only [h4, h2, if_true, if_false]
        intro w1 u
        obtain ⟨R, hR, hn'⟩ := hn w1 u
        exact ⟨R, hR, fun v w' r => ⟨(hn' v w' r).1, ih' _ _ _ _ (ha.put hdo _) (hn' v w' r).2⟩⟩
      · have h4 : ¬ kd o = 4 := by omega
        have h2 : ¬ 2 ≤ kd o := by omega
        simp only [h4, h2, if_false]
        exact ⟨v, hv, ih' _ _ _ _ (ha.put hdo v) hn⟩
    · simp only [hw, if_false, Bool.false_eq_true] at h ⊢
      exact ih' _ _ _ _ (ha.put hdo undef) h
end
theorem E.regionF {md : Mode} {P : Program} {N : Nat} {Q : Exit → Env → World → Prop} {e : Env} {w : World} {id : Nat} {l : List Oper} (S : Bool → Nat → Prop) (B C : List Nat) (hm : P.follows .mixedOrders = true) (hd : dstsOk N l.toArray = true)
    (hc : chkF l.toArray (fun i => ((l.toArray[i]?).map (kindF B C)).getD 0) = true) (hS : ∀ c b, S c b → b < w.heap.size)
    (h : ∀ w1, Ext w w1 → w1.heap = w.heap → wpG P l.toArray w.heap.size S (kindF B C) (Q .normal) l (fun _ => False) e w1) : wpE md P N (.region id l.toArray true) Q e w := fun a ha => by
  refine wp_region_float (S := S) hm hc hS (Nat.le_refl _) ?_
  have := wpG_F (md := md) hd l 0 (by simp) _ e w.drew a ha (h _ (Upd.drew _) rfl)
  rw [List.range_eq_range']
  simpa using this
namespace G
variable {P : Program} {ops : Array Oper} {N0 : Nat} {S : Bool → Nat → Prop} {B C : List Nat} {F : Env → World → Prop} {rest : List Oper} {K : Nat → Prop} {e : Env} {w : World}
variable {o : Oper} {d : Tmp} {od : Option Tmp} {ty : TypeId} {pos : String} {aft : Array Edge}
theorem nil (h : F e w) : wpG P ops N0 S (kindF B C) F [] K e w := h
theorem q (hk : kindF B C o = kind B o) (hk1 : kind B o ≤ 1) (h : wpR P ops S true (kind B) (fun e' _ => wpG P ops N0 S (kindF B C) F rest K e' w) [o] e w) : wpG P ops N0 S (kindF B C) F (o :: rest) K e w := by
  simp only [wpR] at h
  simp only [wpG]
  by_cases hw : wantedE ops o e = true
  · simp only [hw, if_true] at h ⊢
    rcases h with ⟨_, v, hv, hn⟩ | ⟨h2, _⟩
    · exact .inr (.inr ⟨by rw [hk]; exact hk1, v, by rw [hk]; exact hv, hn⟩)
    · have := h2 trivial; omega
  · simp only [hw, if_false, Bool.false_eq_true] at h ⊢
    exact h
def S1 (S : Bool → Nat → Prop) (c : Nat) (N0 : Nat) (K : Nat → Prop) (w1 : World) : Bool → Nat → Prop := fun _ b => S false b ∨ (c = 2 ∧ S true b) ∨ junk N0 K w1 b
theorem S1_lt {c : Nat} {K : Nat → Prop} {w1 : World} {cc : Bool} {b : Nat} (hS : ∀ c b, S c b → b < N0) (hN : N0 ≤ w1.heap.size) (h : S1 S c N0 K w1 cc b) : b < w1.heap.size := by
  rcases h with h | ⟨_, h⟩ | h
  · exact Nat.lt_of_lt_of_le (hS _ _ h) hN
  · exact Nat.lt_of_lt_of_le (hS _ _ h) hN
  · exact h.2.1
theorem S1_new {c : Nat} {K : Nat → Prop} {w1 : World} {cc : Bool} {b : Nat} (hS : ∀ c b, S c b → b < N0) (hb : N0 ≤ b) (hk : K b) : ¬ S1 S c N0 K w1 cc b := by
  rintro (h | ⟨_, h⟩ | h)
  · have := hS _ _ h; omega
  · have := hS _ _ h; omega
  · exact h.2.2 hk
theorem S1_old {K : Nat → Prop} {w1 : World} {cc : Bool} {b : Nat} (hb : b < N0) (h : ¬ S false b) : ¬ S1 S 3 N0 K w1 cc b := by
  rintro (h' | ⟨h', _⟩ | h')
  · exact h h'
  · omega
  · have := h'.1; omega
theorem l {c : Nat} (hw : wantedE ops o e = true) (hk : kindF B C o = c) (hc : c = 2 ∨ c = 3) (hk2 : 2 ≤ kind [] o)
    (h : ∀ w1, Ext w w1 → wpR P ops (S1 S c N0 K w1) true (kind []) (fun e' w' => w1.heap.size ≤ w'.heap.size ∧ ∀ K' : Nat → Prop, (∀ x, K x → K' x) → (∀ x, w1.heap.size ≤ x → x < w'.heap.size → K' x) → wpG P ops N0 S (kindF B C) F rest K' e' w') [o] e w1) :
    wpG P ops N0 S (kindF B C) F (o :: rest) K e w := by
  subst hk
  simp only [wpG, hw, if_true]
  refine .inr (.inl ⟨hc, fun w1 u => ?_⟩)
  have h' := h w1 u
  simp only [wpR, hw, if_true] at h'
  rcases h' with ⟨h1, _⟩ | ⟨_, R, hR, hn⟩
  · have := h1 trivial; omega
  · refine ⟨R, hR, fun v w' r => ?_⟩
    obtain ⟨ha, hs, hk⟩ := hn v w' r
    have ha := (ha trivial).1
    exact ⟨⟨fun b hb => ha b (.inl hb), fun h2 b hb => ha b (.inr (.inl ⟨h2, hb⟩)), fun b hb => ha b (.inr (.inr hb)), hs⟩, hk _ (fun _ => .inl) (fun _ h1 h2 => .inr ⟨h1, h2⟩)⟩
theorem alloc {t : TypeId} {k by_ : Nat} {g : Bool} {z : Value} (hk : Ty P t k by_ g z)
    (h : ∀ w1 b (K' : Nat → Prop), Ext w w1 → N0 ≤ b → ¬ K b → (∀ x, K x → K' x) → K' b → Blk w1 b t z.cells → wpG P ops N0 S (kindF B C) F rest K' (upd e d (.pointer (some ⟨b, 0, none⟩))) w1) :
    wpG P ops N0 S (kindF B C) F (⟨some d, .alloc t, ty, pos, aft, none⟩ :: rest) K e w := by
  simp only [wpG, wantedE, if_true]
  refine .inl ⟨rfl, .cells z.cells t, fun b => .pointer (some ⟨b, 0, none⟩), fun w1 => ?_, fun w1 b u hb hkb ho => h w1 b _ u hb hkb (fun _ => .inl) (.inr rfl) ho⟩
  simp [execOp, Instr.alloc, hk.zero, newVar, newRow]
theorem buildSlice {t el : TypeId} {k by_ len : Nat} {g : Bool} {z : Value} {parts : Array (Nat × Operand)} (vs : List Value) (hu : P.underlying t = some (.slice el)) (hk : Ty P el k by_ g z) (hlen : len = vs.length)
    (hp' : parts.toList.map (fun p => (p.1, ev e p.2)) = (vs.zipIdx 0).map fun p => (p.2, p.1)) (hv : ∀ v ∈ vs, v.cells.size = k) (hs : vs.length * k ≤ 16777216)
    (h : ∀ w1 b (K' : Nat → Prop), Ext w w1 → N0 ≤ b → ¬ K b → (∀ x, K x → K' x) → K' b → Sl w1 el k (.slice (some ⟨b, 0, none⟩) vs.length vs.length) vs.length (cellsOf vs) →
      wpG P ops N0 S (kindF B C) F rest K' (upd e d (.slice (some ⟨b, 0, none⟩) vs.length vs.length)) w1) : wpG P ops N0 S (kindF B C) F (⟨some d, .buildSlice t len parts, ty, pos, aft, none⟩ :: rest) K e w := by
  subst hlen
  have hp : (parts.map (fun (i, x) => (i, ev e x))).toList = (vs.zipIdx 0).map fun p => (p.2, p.1) := by rw [← hp']; simp
  have hcl : (cellsOf vs).length = vs.length * k := by
    unfold cellsOf
    clear hp hp' hs h
    induction vs with
    | nil => simp
    | cons u us ihu =>
      rw [List.flatMap_cons, List.length_append, ihu (fun x hx => hv x (List.mem_cons_of_mem _ hx)), List.length_cons, Nat.add_mul, Nat.one_mul]
      have := hv u List.mem_cons_self
      simp [this, Nat.add_comm]
  simp only [wpG, wantedE, if_true]
  refine .inl ⟨rfl, .cells (cellsOf vs).toArray el, fun b => .slice (some ⟨b, 0, none⟩) vs.length vs.length, fun w1 => ?_, fun w1 b u hb hkb ho => h w1 b _ u hb hkb (fun _ => .inl) (.inr rfl)
    ⟨_, _, rfl, Nat.le_refl _, hcl, .inr ⟨_, 0, _, rfl, ho, by simp [hcl], fun j _ => by simp⟩⟩⟩
  have hfill : ∀ cells : Array Value, cells.size = vs.length * k → Instr.fill (fun i => some (i * k, k)) cells (parts.map (fun (i, x) => (i, ev e x))).toList = some (cellsOf vs).toArray := by
    intro cells hc
    rw [hp, fill_at k vs 0 cells hv (by omega)]
    congr 1
    apply Array.ext'
    simp [put, hcl, hc]
  have hs' : ¬ (16777216 < vs.length * k) := by omega
  simp only [execOp, Instr.buildSlice, underlying, Sem.run_bind, run_program, Result.andThen_ok, hu, Sem.run_pure, hk.sizeOf]
  rw [if_neg (by simpa using hs')]
  by_cases h0 : vs.length * k = 0
  · rw [if_pos h0]
    simp only [Sem.run_bind, Sem.run_pure, Result.andThen_ok]
    rw [hfill _ (by simp)]
    simp [newRow]
  · rw [if_neg h0]
    simp only [Sem.run_bind, Sem.run_pure, Result.andThen_ok, hk.zero]
    rw [hfill _ (by simp)]
    simp [newRow]
theorem gF {op : Op} {j t : Nat} {want b : Bool} (ht : (ops[j]?).bind (·.dst) = some t) (hv : e t = .bool b) (hb : (b == want) = false)
    (h : wpG P ops N0 S (kindF B C) F rest K (updo e od undef) w) : wpG P ops N0 S (kindF B C) F (⟨od, op, ty, pos, aft, some (j, want)⟩ :: rest) K e w := by
  have e1 : wantedE ops ⟨od, op, ty, pos, aft, some (j, want)⟩ e = false := by simp [wantedE, ht, hv, hb]
  simp only [wpG, e1, Bool.false_eq_true, if_false]
  exact h
theorem gU {op : Op} {j t : Nat} {want : Bool} (ht : (ops[j]?).bind (·.dst) = some t) (hv : e t = undef)
    (h : wpG P ops N0 S (kindF B C) F rest K (updo e od undef) w) : wpG P ops N0 S (kindF B C) F (⟨od, op, ty, pos, aft, some (j, want)⟩ :: rest) K e w := by
  have e1 : wantedE ops ⟨od, op, ty, pos, aft, some (j, want)⟩ e = false := by simp [wantedE, ht, hv, undef]
  simp only [wpG, e1, Bool.false_eq_true, if_false]
  exact h
theorem gT {op : Op} {j t : Nat} {want : Bool} (ht : (ops[j]?).bind (·.dst) = some t) (hv : e t = .bool want)
    (h : wpG P ops N0 S (kindF B C) F (⟨od, op, ty, pos, aft, none⟩ :: rest) K e w) : wpG P ops N0 S (kindF B C) F (⟨od, op, ty, pos, aft, some (j, want)⟩ :: rest) K e w := by
  have e1 : wantedE ops ⟨od, op, ty, pos, aft, some (j, want)⟩ e = true := by simp [wantedE, ht, hv]
  have e2 : kindF B C ⟨od, op, ty, pos, aft, some (j, want)⟩ = kindF B C ⟨od, op, ty, pos, aft, none⟩ := rfl
  have e3 : execOp (ev e) ⟨od, op, ty, pos, aft, some (j, want)⟩ = execOp (ev e) ⟨od, op, ty, pos, aft, none⟩ := rfl
  simp only [wpG, e1, if_true, e2, e3]
  simp only [wpG, wantedE, if_true] at h
  exact h
end G
end Go.Proofs.Ytfdmndkoiheebaa
