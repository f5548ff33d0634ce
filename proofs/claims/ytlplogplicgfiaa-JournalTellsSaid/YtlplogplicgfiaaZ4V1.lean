import Derived.Test.YtlplogplicgfiaaZ4Core2
import Derived.Test.YtlplogplicgfiaaZ4Base4
namespace Go.Proofs.Ytlplogplicgfiaa
open Go
def kindF (B C : List Nat) (o : Oper) : Nat :=
  match o.op with
  | .alloc _ | .buildSlice .. | .makeSlice .. => 4
  | .call { callee := .builtin b, .. } => (match b with | .len | .cap | .min | .max => 0 | _ => (match o.dst with | some d => (if C.contains d then 2 else 3) | none => 3))
  | .call _ => (match o.dst with | some d => (if C.contains d then 2 else 3) | none => 3)
  | _ => kind B o
def wpG (P : Program) (ops : Array Oper) (N0 : Nat) (S : Bool → Nat → Prop) (kd : Oper → Nat) (F : Env → World → Prop) : List Oper → (Nat → Prop) → Env → World → Prop
  | [], _, e, w => F e w
  | o :: rest, K, e, w =>
    if wantedE ops o e = true then
      (kd o = 4 ∧ ∃ (obj : Obj) (vf : Nat → Value), (∀ w1, (execOp (ev e) o).run P w1 = .ok (.value (vf w1.heap.size)) (w1.alloc obj)) ∧
        ∀ w1 b, Ext w w1 → N0 ≤ b → ¬ K b → w1.heap[b]? = some obj → wpG P ops N0 S kd F rest (fun x => K x ∨ x = b) (updo e o.dst (vf b)) w1) ∨
      ((kd o = 2 ∨ kd o = 3) ∧ ∀ w1, Ext w w1 → ∃ R, Loud P R ((execOp (ev e) o).run P w1) ∧ ∀ v w', R v w' →
        (AgreeOn (S false) w1 w' ∧ (kd o = 2 → AgreeOn (S true) w1 w') ∧ AgreeOn (junk N0 K w1) w1 w' ∧ w1.heap.size ≤ w'.heap.size) ∧ wpG P ops N0 S kd F rest (fun x => K x ∨ (w1.heap.size ≤ x ∧ x < w'.heap.size)) (updo e o.dst v) w') ∨
      (kd o ≤ 1 ∧ ∃ v, (∀ w', AgreeOn (S (kd o == 1)) w w' → (execOp (ev e) o).run P w' = .ok (.value v) w') ∧ wpG P ops N0 S kd F rest K (updo e o.dst v) w)
    else wpG P ops N0 S kd F rest K (updo e o.dst undef) w
section
variable {P : Program} {ops : Array Oper} {N0 : Nat} {S : Bool → Nat → Prop} {kd : Oper → Nat} {F : Env → World → Prop} {N : Nat}
theorem wpG_F {md : Mode} (hd : dstsOk N ops = true) : ∀ (l : List Oper) (k : Nat), (∀ j, l[j]? = ops[k + j]?) → ∀ (K : Nat → Prop) (e : Env) (w : World) (a : Act), Rep md N a e →
    wpG P ops N0 S kd F l K e w → wpF P ops N0 S (fun i => ((ops[i]?).map kd).getD 0) (fun a w => ∃ e, Rep md N a e ∧ F e w) (List.range' k l.length) K a w := by
  intro l
  induction l with
  | nil => intro k _ K e w a ha h; exact ⟨e, ha, h⟩
  | cons o l ih =>
    intro k hk K e w a ha h; have h0 : ops[k]? = some o := by simpa using (hk 0).symm
    have ih' := ih (k + 1) (fun j => by have := hk (j + 1); simpa [Nat.add_assoc, Nat.add_comm 1 j] using this); have hdo : ∀ t, o.dst = some t → t < N := by
      intro t ht; have hm : o ∈ ops.toList := by simpa using Array.mem_of_getElem? h0
      have := List.all_eq_true.1 hd o hm; simpa [ht] using this
    rw [List.length_cons, List.range'_succ, wpF_cons h0]; have hkd : ((ops[k]?).map kd).getD 0 = kd o := by simp [h0]
    simp only [stepF, ha.wanted o hd, ha.eval, hkd]; simp only [wpG] at h; by_cases hw : wantedE ops o e = true
    · simp only [hw, if_true] at h ⊢; rcases h with ⟨h4, obj, vf, hr, hn⟩ | ⟨h23, hn⟩ | ⟨hl, v, hv, hn⟩
      · have e4 := eq_true h4; simp only [e4, if_true]; exact ⟨obj, vf, hr, fun w1 b u hb hk ho => ih' _ _ _ _ (ha.put hdo _) (hn w1 b u hb hk ho)⟩
      · have h4 : ¬ kd o = 4 := by omega
        have h2 : 2 ≤ kd o := by omega
        simp only [h4, h2, if_true, if_false]; intro w1 u; obtain ⟨R, hR, hn'⟩ := hn w1 u; exact ⟨R, hR, fun v w' r => ⟨(hn' v w' r).1, ih' _ _ _ _ (ha.put hdo _) (hn' v w' r).2⟩⟩
      · have h4 : ¬ kd o = 4 := by omega
        have h2 : ¬ 2 ≤ kd o := by omega
        simp only [h4, h2, if_false]; exact ⟨v, hv, ih' _ _ _ _ (ha.put hdo v) hn⟩
    · simp only [hw, if_false, Bool.false_eq_true] at h ⊢; exact ih' _ _ _ _ (ha.put hdo undef) h
end
theorem E.regionF {md : Mode} {P : Program} {N : Nat} {Q : Exit → Env → World → Prop} {e : Env} {w : World} {id : Nat} {l : List Oper} (S : Bool → Nat → Prop) (B C : List Nat) (hm : P.follows .mixedOrders = true) (hd : dstsOk N l.toArray = true)
    (hc : chkF l.toArray (fun i => ((l.toArray[i]?).map (kindF B C)).getD 0) = true) (hS : ∀ c b, S c b → b < w.heap.size)
    (h : ∀ w1, Ext w w1 → w1.heap = w.heap → wpG P l.toArray w.heap.size S (kindF B C) (Q .normal) l (fun _ => False) e w1) : wpE md P N (.region id l.toArray true) Q e w := fun a ha => by
  refine wp_region_float (S := S) hm hc hS (Nat.le_refl _) ?_; have := wpG_F (md := md) hd l 0 (by simp) _ e w.drew a ha (h _ (Upd.drew _) rfl); rw [List.range_eq_range']; simpa using this
namespace G
variable {P : Program} {ops : Array Oper} {N0 : Nat} {S : Bool → Nat → Prop} {B C : List Nat} {F : Env → World → Prop} {rest : List Oper} {K : Nat → Prop} {e : Env} {w : World}
variable {o : Oper} {d : Tmp} {od : Option Tmp} {ty : TypeId} {pos : String} {aft : Array Edge}
theorem nil (h : F e w) : wpG P ops N0 S (kindF B C) F [] K e w := h
theorem q (hk : kindF B C o = kind B o) (hk1 : kind B o ≤ 1) (h : wpR P ops S true (kind B) (fun e' _ => wpG P ops N0 S (kindF B C) F rest K e' w) [o] e w) : wpG P ops N0 S (kindF B C) F (o :: rest) K e w := by
  simp only [wpR] at h; simp only [wpG]; by_cases hw : wantedE ops o e = true
  · simp only [hw, if_true] at h ⊢; rcases h with ⟨_, v, hv, hn⟩ | ⟨h2, _⟩
    · exact .inr (.inr ⟨by rw [hk]; exact hk1, v, by rw [hk]; exact hv, hn⟩)
    · have := h2 trivial; omega
  · simp only [hw, if_false, Bool.false_eq_true] at h ⊢; exact h
def S1 (S : Bool → Nat → Prop) (c : Nat) (N0 : Nat) (K : Nat → Prop) (w1 : World) : Bool → Nat → Prop := fun _ b => S false b ∨ (c = 2 ∧ S true b) ∨ junk N0 K w1 b
theorem S1_lt {c : Nat} {K : Nat → Prop} {w1 : World} {cc : Bool} {b : Nat} (hS : ∀ c b, S c b → b < N0) (hN : N0 ≤ w1.heap.size) (h : S1 S c N0 K w1 cc b) : b < w1.heap.size := by
  rcases h with h | ⟨_, h⟩ | h
  · exact Nat.lt_of_lt_of_le (hS _ _ h) hN
  · exact Nat.lt_of_lt_of_le (hS _ _ h) hN
  · exact h.2.1
theorem S1_new {c : Nat} {K : Nat → Prop} {w1 : World} {cc : Bool} {b : Nat} (hS : ∀ c b, S c b → b < N0) (hb : N0 ≤ b) (hk : K b) : ¬ S1 S c N0 K w1 cc b := by
  rintro (h | ⟨_, h⟩ | h)
  · have := hS _ _ h; omega
  · have := hS _ _ h; omega
  · exact h.2.2 hk
theorem S1_old {K : Nat → Prop} {w1 : World} {cc : Bool} {b : Nat} (hb : b < N0) (h : ¬ S false b) : ¬ S1 S 3 N0 K w1 cc b := by
  rintro (h' | ⟨h', _⟩ | h')
  · exact h h'
  · omega
  · have := h'.1; omega
theorem l {c : Nat} (hw : wantedE ops o e = true) (hk : kindF B C o = c) (hc : c = 2 ∨ c = 3) (hk2 : 2 ≤ kind [] o)
    (h : ∀ w1, Ext w w1 → wpR P ops (S1 S c N0 K w1) true (kind []) (fun e' w' => w1.heap.size ≤ w'.heap.size ∧ ∀ K' : Nat → Prop, (∀ x, K x → K' x) → (∀ x, w1.heap.size ≤ x → x < w'.heap.size → K' x) → wpG P ops N0 S (kindF B C) F rest K' e' w') [o] e w1) :
    wpG P ops N0 S (kindF B C) F (o :: rest) K e w := by
  subst hk; simp only [wpG, hw, if_true]; refine .inr (.inl ⟨hc, fun w1 u => ?_⟩); have h' := h w1 u; simp only [wpR, hw, if_true] at h'; rcases h' with ⟨h1, _⟩ | ⟨_, R, hR, hn⟩
  · have := h1 trivial; omega
  · refine ⟨R, hR, fun v w' r => ?_⟩; obtain ⟨ha, hs, hk⟩ := hn v w' r; have ha := (ha trivial).1; exact ⟨⟨fun b hb => ha b (.inl hb), fun h2 b hb => ha b (.inr (.inl ⟨h2, hb⟩)), fun b hb => ha b (.inr (.inr hb)), hs⟩, hk _ (fun _ => .inl) (fun _ h1 h2 => .inr ⟨h1, h2⟩)⟩
theorem alloc {t : TypeId} {k by_ : Nat} {g : Bool} {z : Value} (hk : Ty P t k by_ g z)
    (h : ∀ w1 b (K' : Nat → Prop), Ext w w1 → N0 ≤ b → ¬ K b → (∀ x, K x → K' x) → K' b → Blk w1 b t z.cells → wpG P ops N0 S (kindF B C) F rest K' (upd e d (.pointer (some ⟨b, 0, none⟩))) w1) :
    wpG P ops N0 S (kindF B C) F (⟨some d, .alloc t, ty, pos, aft, none⟩ :: rest) K e w := by
  simp only [wpG, wantedE, if_true]; refine .inl ⟨rfl, .cells z.cells t, fun b => P6 b, fun w1 => ?_, fun w1 b u hb hkb ho => h w1 b _ u hb hkb (fun _ => .inl) (.inr rfl) ho⟩; simp [execOp, Instr.alloc, hk.zero, newVar, newRow]
theorem buildSlice {t el : TypeId} {k by_ len : Nat} {g : Bool} {z : Value} {parts : Array (Nat × Operand)} (vs : List Value) (hu : P.underlying t = some (.slice el)) (hk : Ty P el k by_ g z) (hlen : len = vs.length)
    (hp' : parts.toList.map (fun p => (p.1, ev e p.2)) = (vs.zipIdx 0).map fun p => (p.2, p.1)) (hv : ∀ v ∈ vs, v.cells.size = k) (hs : vs.length * k ≤ 16777216)
    (h : ∀ w1 b (K' : Nat → Prop), Ext w w1 → N0 ≤ b → ¬ K b → (∀ x, K x → K' x) → K' b → Sl w1 el k (.slice (some ⟨b, 0, none⟩) vs.length vs.length) vs.length (cellsOf vs) →
      wpG P ops N0 S (kindF B C) F rest K' (upd e d (.slice (some ⟨b, 0, none⟩) vs.length vs.length)) w1) : wpG P ops N0 S (kindF B C) F (⟨some d, .buildSlice t len parts, ty, pos, aft, none⟩ :: rest) K e w := by
  subst hlen; have hp : (parts.map (fun (i, x) => (i, ev e x))).toList = (vs.zipIdx 0).map fun p => (p.2, p.1) := by rw [← hp']; simp
  have hcl : (cellsOf vs).length = vs.length * k := by
    unfold cellsOf; clear hp hp' hs h
    induction vs with
    | nil => simp
    | cons u us ihu =>
      rw [List.flatMap_cons, List.length_append, ihu (fun x hx => hv x (List.mem_cons_of_mem _ hx)), List.length_cons, Nat.add_mul, Nat.one_mul]; have := hv u List.mem_cons_self; simp [this, Nat.add_comm]
  simp only [wpG, wantedE, if_true]
  refine .inl ⟨rfl, .cells (cellsOf vs).toArray el, fun b => .slice (some ⟨b, 0, none⟩) vs.length vs.length, fun w1 => ?_, fun w1 b u hb hkb ho => h w1 b _ u hb hkb (fun _ => .inl) (.inr rfl)
    ⟨_, _, rfl, Nat.le_refl _, hcl, .inr ⟨_, 0, _, rfl, ho, by simp [hcl], fun j _ => by simp⟩⟩⟩
  have hfill : ∀ cells : Array Value, cells.size = vs.length * k → Instr.fill (fun i => some (i * k, k)) cells (parts.map (fun (i, x) => (i, ev e x))).toList = some (cellsOf vs).toArray := by
    intro cells hc; rw [hp, fill_at k vs 0 cells hv (by omega)]
    congr 1
    apply Array.ext'; simp [put, hcl, hc]
  have hs' : ¬ (16777216 < vs.length * k) := by omega
  simp only [execOp, Instr.buildSlice, underlying, Sem.run_bind, run_program, Result.andThen_ok, hu, Sem.run_pure, hk.sizeOf]; rw [if_neg (by simpa using hs')]; by_cases h0 : vs.length * k = 0
  · rw [if_pos h0]; simp only [Sem.run_bind, Sem.run_pure, Result.andThen_ok]; rw [hfill _ (by simp)]; simp [newRow]
  · rw [if_neg h0]; simp only [Sem.run_bind, Sem.run_pure, Result.andThen_ok, hk.zero]; rw [hfill _ (by simp)]; simp [newRow]
theorem gF {op : Op} {j t : Nat} {want b : Bool} (ht : (ops[j]?).bind (·.dst) = some t) (hv : e t = .bool b) (hb : (b == want) = false)
    (h : wpG P ops N0 S (kindF B C) F rest K (updo e od undef) w) : wpG P ops N0 S (kindF B C) F (⟨od, op, ty, pos, aft, some (j, want)⟩ :: rest) K e w := by
  have e1 : wantedE ops ⟨od, op, ty, pos, aft, some (j, want)⟩ e = false := by simp [wantedE, ht, hv, hb]
  simp only [wpG, e1, Bool.false_eq_true, if_false]; exact h
theorem gU {op : Op} {j t : Nat} {want : Bool} (ht : (ops[j]?).bind (·.dst) = some t) (hv : e t = undef)
    (h : wpG P ops N0 S (kindF B C) F rest K (updo e od undef) w) : wpG P ops N0 S (kindF B C) F (⟨od, op, ty, pos, aft, some (j, want)⟩ :: rest) K e w := by
  have e1 : wantedE ops ⟨od, op, ty, pos, aft, some (j, want)⟩ e = false := by simp [wantedE, ht, hv, undef]
  simp only [wpG, e1, Bool.false_eq_true, if_false]; exact h
theorem gT {op : Op} {j t : Nat} {want : Bool} (ht : (ops[j]?).bind (·.dst) = some t) (hv : e t = .bool want)
    (h : wpG P ops N0 S (kindF B C) F (⟨od, op, ty, pos, aft, none⟩ :: rest) K e w) : wpG P ops N0 S (kindF B C) F (⟨od, op, ty, pos, aft, some (j, want)⟩ :: rest) K e w := by
  have e1 : wantedE ops ⟨od, op, ty, pos, aft, some (j, want)⟩ e = true := by simp [wantedE, ht, hv]
  have e2 : kindF B C ⟨od, op, ty, pos, aft, some (j, want)⟩ = kindF B C ⟨od, op, ty, pos, aft, none⟩ := rfl; have e3 : execOp (ev e) ⟨od, op, ty, pos, aft, some (j, want)⟩ = execOp (ev e) ⟨od, op, ty, pos, aft, none⟩ := rfl; simp only [wpG, e1, if_true, e2, e3]; simp only [wpG, wantedE, if_true] at h; exact h
end G
end Go.Proofs.Ytlplogplicgfiaa

namespace Go.Proofs.Ytlplogplicgfiaa
open Go Go.RowKit
namespace R
variable {P : Program} {ops : Array Oper} {S : Bool → Nat → Prop} {dr : Bool} {B : List Nat} {F : Env → World → Prop} {rest : List Oper} {e : Env} {w : World}
variable {d : Tmp} {od : Option Tmp} {ty : TypeId} {pos : String} {aft : Array Edge}
theorem makeFunc {fn : Fn} {first cap : Array Operand} {f c : Array Value} (hf : first.map (ev e) = f) (hc : cap.map (ev e) = c)
    (h : wpR P ops S dr (kind B) F rest (upd e d (.func fn f c)) w) : wpR P ops S dr (kind B) F (⟨some d, .makeFunc fn first cap, ty, pos, aft, none⟩ :: rest) e w :=
  quiet _ rfl (fun w' _ => by simp [execOp, Instr.makeFunc, hf, hc]) h
theorem callV {f : FuncId} {x : Operand} {cap : Array Value} {args : Array Operand} {ats : Array TypeId} {vs : Array Value} {Φ : Value → World → Prop} (hent : Entered P f) (hx : ev e x = .func (.func f) #[] cap) (hargs : args.map (ev e) ++ cap = vs) (hc : Calls P f vs w (Ret Φ))
    (h : ∀ v w', Φ v w' → (dr = true → AgreeOn (S false) w w') ∧ wpR P ops S dr (kind B) F rest (updo e od v) w') :
    wpR P ops S dr (kind B) F (⟨od, .call { callee := .value x, args := args, argTypes := ats }, ty, pos, aft, none⟩ :: rest) e w := by
  refine loud Φ (by simp [kind]) ?_ (fun v w' hΦ => ⟨fun hd => ⟨(h v w' hΦ).1 hd, fun h2 => by simp [kind] at h2⟩, (h v w' hΦ).2⟩); have e1 : execOp (ev e) ⟨od, .call { callee := .value x, args := args, argTypes := ats }, ty, pos, aft, none⟩ = (do let d ← Deferred.ofValue (ev e x) (args.map (ev e)); invoke d.target d.args) := rfl; rw [e1, hx]; simp only [Deferred.ofValue, Sem.run_bind, Sem.run_pure, Result.andThen_ok, invoke, Array.empty_append, hargs]; rw [hent]; exact hc
def _root_.Go.Proofs.Ytlplogplicgfiaa.Yields (P : Program) (l : Nat) (vs : Array Value) (w : World) (Φ : Value → World → Prop) : Prop := Loud P Φ ((Instr.yield l vs).run P w)
theorem callY {l : Nat} {x : Operand} {args : Array Operand} {ats : Array TypeId} {vs : Array Value} {Φ : Value → World → Prop} (hx : ev e x = .func (.yield l) #[] #[]) (hargs : args.map (ev e) = vs) (hc : Yields P l vs w Φ)
    (h : ∀ v w', Φ v w' → (dr = true → AgreeOn (S false) w w') ∧ wpR P ops S dr (kind B) F rest (updo e od v) w') :
    wpR P ops S dr (kind B) F (⟨od, .call { callee := .value x, args := args, argTypes := ats }, ty, pos, aft, none⟩ :: rest) e w := by
  refine loud Φ (by simp [kind]) ?_ (fun v w' hΦ => ⟨fun hd => ⟨(h v w' hΦ).1 hd, fun h2 => by simp [kind] at h2⟩, (h v w' hΦ).2⟩); have e1 : execOp (ev e) ⟨od, .call { callee := .value x, args := args, argTypes := ats }, ty, pos, aft, none⟩ = (do let d ← Deferred.ofValue (ev e x) (args.map (ev e)); invoke d.target d.args) := rfl; rw [e1, hx]; simp only [Deferred.ofValue, Sem.run_bind, Sem.run_pure, Result.andThen_ok, invoke, Array.empty_append, hargs]; exact hc
end R
theorem Yields.mono {P : Program} {l : Nat} {vs : Array Value} {w : World} {Φ Φ' : Value → World → Prop} (h : Yields P l vs w Φ) (hm : ∀ v w, Φ v w → Φ' v w) : Yields P l vs w Φ' := Loud.mono h hm
def Obj1 (w : World) (l : Nat) (o : Obj) : Prop := w.heap[l]? = some o
theorem Obj1.lt {w : World} {l : Nat} {o : Obj} (h : Obj1 w l o) : l < w.heap.size := lt_of_get h
theorem Obj1.up {X : Nat → Prop} {w w' : World} {l : Nat} {o : Obj} (h : Obj1 w l o) (u : Upd X w w') (hx : ¬ X l) : Obj1 w' l o := (u.blk l h.lt hx).trans h
theorem Obj1.ext {w w' : World} {l : Nat} {o : Obj} (h : Obj1 w l o) (u : Ext w w') : Obj1 w' l o := h.up u id
theorem put_upd {w : World} {l : Nat} {o : Obj} : Upd (one l) w (w.putObj l o) := ⟨rfl, rfl, rfl, by simp, fun b _ hb => World.putObj_heap_other hb⟩
def updl (e : Env) : List (Nat × Value) → Env
  | [] => e
  | (t, v) :: l => updl (upd e t v) l
theorem foldl_env (N : Nat) : ∀ (l : List (Nat × Value)) (tmps : Array Value) (e : Env), tmps.size = N → (∀ p ∈ l, p.1 < N) → (∀ t, tmps.getD t undef = e.val t) →
    (l.foldl (fun tmps (p : Nat × Value) => tmps.setIfInBounds p.1 p.2) tmps).size = N ∧ ∀ t, (l.foldl (fun tmps (p : Nat × Value) => tmps.setIfInBounds p.1 p.2) tmps).getD t undef = (updl e l).val t := by
  intro l
  induction l with
  | nil => intro tmps e hs _ hg; exact ⟨hs, hg⟩
  | cons p l ih =>
    intro tmps e hs hp hg; obtain ⟨d, v⟩ := p; have hd : d < N := hp (d, v) List.mem_cons_self; refine ih _ (upd e d v) (by simpa using hs) (fun p h => hp p (List.mem_cons_of_mem _ h)) (fun t => ?_); simp only [upd]; by_cases ht : t = d
    · subst ht; simp [hs, hd]
    · simp only [if_neg ht, ← hg t, Array.getD_eq_getD_getElem?, Array.getElem?_setIfInBounds_ne (Ne.symm ht)]
structure LRec (N : Nat) (e : Env) (ps : Array Tmp) (assign body : Code) (r : Loop) : Prop where
  size : r.tmps.size = N
  get : ∀ t, r.tmps.getD t undef = e.val t
  params : r.params = ps
  assign : r.assign = assign
  body : r.body = body
def roundQ (l : Nat) (r : Loop) (Φ : Value → World → Prop) : Exit → Env → World → Prop
  | .normal, _, w => Obj1 w l (.loop { r with state := .busy }) ∧ ∀ w', Upd (one l) w w' → Obj1 w' l (.loop { r with state := .ready, pending := none }) → Φ (.bool true) w'
  | .ret, _, w => Obj1 w l (.loop { r with state := .busy }) ∧ ∀ w', Upd (one l) w w' → Obj1 w' l (.loop { r with state := .done, pending := some .ret }) → Φ (.bool false) w'
  | .exit id, _, w => Obj1 w l (.loop { r with state := .busy }) ∧ ∀ w', Upd (one l) w w' → Obj1 w' l (.loop { r with state := .done, pending := some (.exit id) }) → Φ (.bool false) w'
  | _, _, _ => False
theorem roundQ_post {P : Program} {l : Nat} {r : Loop} {Φ : Value → World → Prop} {x : Exit} {e : Env} {a : Act} {w : World} (q : roundQ l r Φ x e w) : roundPost P l (fun en w'' => ∃ v, en = .returned v ∧ Φ v w'') x a w := by
  cases x with
  | normal => exact ⟨_, _, run_endRound none q.1, _, rfl, q.2 _ put_upd (World.putObj_heap_same q.1.lt)⟩
  | ret => exact ⟨_, _, run_endRound (some .ret) q.1, _, rfl, q.2 _ put_upd (World.putObj_heap_same q.1.lt)⟩
  | exit i => exact ⟨_, _, run_endRound (some (.exit i)) q.1, _, rfl, q.2 _ put_upd (World.putObj_heap_same q.1.lt)⟩
  | goto t => exact q.elim
  | panic c => exact q.elim
  | outgrown => exact q.elim
def beginQ (P : Program) (N : Nat) (l : Nat) (r : Loop) (body : Code) (Φ : Value → World → Prop) : Exit → Env → World → Prop
  | .normal, e1, w1 => Obj1 w1 l (.loop r) ∧ ∀ w2, Upd (one l) w1 w2 → Obj1 w2 l (.loop { r with state := .busy }) → wpE ⟨some l, false⟩ P N body (roundQ l r Φ) e1 w2
  | _, _, _ => False
theorem yields_of {P : Program} {N l : Nat} {e : Env} {ps : Array Tmp} {assign body : Code} {r : Loop} {vs : Array Value} {w : World} {Φ : Value → World → Prop} (hr : LRec N e ps assign body r) (hl : Obj1 w l (.loop r)) (hs : r.state = .ready) (hn : vs.size = ps.size) (hp : ∀ p ∈ (ps.zip vs).toList, p.1 < N)
    (h : wpE ⟨some l, false⟩ P N assign (beginQ P N l r body Φ) (updl e (ps.zip vs).toList) w) : Yields P l vs w Φ := by
  obtain ⟨hsz, hget⟩ := foldl_env N (ps.zip vs).toList r.tmps e hr.size hp hr.get; unfold Yields; rw [run_yield hl (by rw [hr.params]; exact hn)]; show RoundIn Fence.wide 0 P l r.fn _ r.assign r.body w _; rw [hr.params, hr.assign, hr.body]; refine roundIn_of_wpIn (F := Fence.wide) trivial ?_; have hfold : (ps.zip vs).foldl (fun tmps x => match x with | (t, a) => tmps.setIfInBounds t a) r.tmps = (ps.zip vs).toList.foldl (fun tmps (p : Nat × Value) => tmps.setIfInBounds p.1 p.2) r.tmps := by
    rw [← Array.foldl_toList]
  refine wpIn_mono (h { tmps := _, defers := [] } ⟨by rw [hfold]; exact hsz, rfl, fun t => by rw [hfold]; exact hget t⟩) fun x a' w' ⟨e', rep, q⟩ => ?_; cases x <;> simp only [beginQ] at q; obtain ⟨hl1, hb⟩ := q; refine ⟨_, run_beginRound hl1 hs, ?_⟩; exact wpIn_mono (hb _ put_upd (World.putObj_heap_same hl1.lt) a' rep) fun x a2 w2 ⟨e2, rep2, q2⟩ => roundQ_post q2
def loopQ (l D : Nat) (Q : Exit → Env → World → Prop) (e : Env) (w : World) : Prop :=
  ∃ r : Loop, Obj1 w l (.loop r) ∧ r.state ≠ .busy ∧ ∀ w', Upd (one l) w w' → match r.pending with
    | none => Q .normal ⟨e.val, D :: e.ms⟩ w'
    | some .ret => Q .ret ⟨e.val, D :: e.ms⟩ w'
    | some (.exit id) => Q (.exit id) ⟨e.val, D :: e.ms⟩ w'
    | _ => False
theorem E.rangeF {P : Program} {N : Nat} {Q : Exit → Env → World → Prop} {e : Env} {w : World} {g : Operand} {ps : Array Tmp} {assign body : Code} {gf : FuncId} {cap : Array Value} (hg : ev e g = .func (.func gf) #[] cap) (hent : Entered P gf)
    (h : ∀ (w1 : World) (r : Loop) (D : Nat), Ext w w1 → w.heap.size ≤ D → Obj1 w1 D (.deferred (some [])) → Obj1 w1 (D + 1) (.loop r) → LRec N e ps assign body r → r.state = .ready → r.pending = none →
      Calls P gf (#[.func (.yield (D + 1)) #[] #[]] ++ cap) w1 (Ret fun _ w3 => loopQ (D + 1) D Q e w3)) :
    wpE ⟨none, true⟩ P N (.rangeFunc g ps assign body) Q e w := by
  intro a ha; refine wpIn_rangeFunc fun fn _ => ?_
  let r : Loop := { state := .ready, pending := none, fn, tmps := a.tmps, params := ps, assign, body, defers := w.heap.size }
  have hw1 : Ext w ((w.alloc (.deferred (some []))).alloc (.loop r)) := (Upd.push w _).trans (Upd.push _ _) fun _ _ h => h; have hD : Obj1 ((w.alloc (.deferred (some []))).alloc (.loop r)) w.heap.size (.deferred (some [])) := by
    show ((w.heap.push _).push _)[w.heap.size]? = _; rw [Array.getElem?_push_lt (by simp)]; simp
  have hL : Obj1 ((w.alloc (.deferred (some []))).alloc (.loop r)) (w.heap.size + 1) (.loop r) := by
    show ((w.heap.push _).push _)[w.heap.size + 1]? = _; have : w.heap.size + 1 = (w.heap.push (Obj.deferred (some []))).size := by simp
    rw [this, Array.getElem?_push_size]
  have hc := h _ r w.heap.size hw1 (Nat.le_refl _) hD hL ⟨ha.size, ha.get, rfl, rfl, rfl⟩ rfl rfl; refine ⟨w.heap.size + 1, [{ target := .collected w.heap.size, args := #[] }], (w.alloc (.deferred (some []))).alloc (.loop r), ⟨.fn (.func gf) cap, #[.func (.yield (w.heap.size + 1)) #[] #[]]⟩, (w.alloc (.deferred (some []))).alloc (.loop r), gf, #[.func (.yield (w.heap.size + 1)) #[] #[]] ++ cap, (w.alloc (.deferred (some []))).alloc (.loop r), run_enterLoop_outer fn a.tmps ps assign body, ?_, fun _ _ => trivial, ?_, nofun, ?_⟩
  · have hge : a.eval g = .func (.func gf) #[] cap := by rw [ha.eval]; exact hg
    have e1 : resolve a.eval (rangeCall g (w.heap.size + 1)) 0 = Deferred.ofValue (a.eval g) #[.func (.yield (w.heap.size + 1)) #[] #[]] := by
      have e2 : a.eval (.const (.func (.yield (w.heap.size + 1)) #[] #[])) = .func (.yield (w.heap.size + 1)) #[] #[] := rfl; simp only [resolve, List.map_toArray, List.map_cons, List.map_nil, e2]
    rw [e1, hge]; rfl
  · simp only [invoke]; exact hent _ _
  · refine callsIn_FR.2 (hc.mono fun en w3 ⟨v, he, r3, h1, h2, h3⟩ => ?_); subst he; refine ⟨r3.pending, _, run_endLoop h1 h2, ?_⟩; have h4 := h3 _ (put_upd (o := .loop { r3 with state := .exhausted }))
    have rep : Rep ⟨none, true⟩ N { a with defers := [{ target := .collected w.heap.size, args := #[] }] ++ a.defers } ⟨e.val, w.heap.size :: e.ms⟩ :=
      ⟨ha.size, by have := ha.defers; simp only [if_true] at this ⊢; rw [this]; rfl, ha.get⟩
    cases hpd : r3.pending with
    | none => rw [hpd] at h4; exact ⟨_, rep, h4⟩
    | some c =>
      rw [hpd] at h4; cases c <;> simp only at h4
      case ret => exact wpIn_ret ⟨_, rep, h4⟩
      case exit id => exact wpIn_exit ⟨_, rep, h4⟩
theorem Takes.run {P : Program} : ∀ (Ds : List Nat) (w : World), Ds.Nodup → (∀ D ∈ Ds, Obj1 w D (.deferred (some []))) → ∃ w', Takes P Ds w w' ∧ Upd (fun x => x ∈ Ds) w w'
  | [], w, _, _ => ⟨w, rfl, Upd.refl _⟩
  | D :: Ds, w, hn, h => by
    have hD := h D List.mem_cons_self; rw [List.nodup_cons] at hn; obtain ⟨w', h1, h2⟩ := Takes.run Ds (w.putObj D (.deferred none)) hn.2 (fun x hx => (h x (List.mem_cons_of_mem _ hx)).up put_upd (fun e => hn.1 (by have e1 : x = D := e; exact e1 ▸ hx))); exact ⟨w', ⟨_, run_takeDeferred hD, h1⟩, (put_upd.mono (fun x _ e => by have e1 : x = D := e; rw [e1]; exact List.mem_cons_self)).trans h2 (fun x _ hx => List.mem_cons_of_mem _ hx)⟩
end Go.Proofs.Ytlplogplicgfiaa
