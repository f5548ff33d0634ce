import Derived.Test.YtlplogplicgfiaaZ4Short
import Derived.WalkKit
import Derived.Orders
import Derived.OrdersIn
import Derived.RangeFuncLeaves
import Derived.RangeFuncRecord
namespace Go.Proofs.Ytlplogplicgfiaa
open Go
def AgreeOn (S : Nat → Prop) (w w' : World) : Prop := ∀ b, S b → w'.heap[b]? = w.heap[b]?
theorem AgreeOn.refl {S : Nat → Prop} (w : World) : AgreeOn S w w := fun _ _ => rfl
theorem AgreeOn.symm {S : Nat → Prop} {w w' : World} (h : AgreeOn S w w') : AgreeOn S w' w := fun b hb => (h b hb).symm
theorem AgreeOn.trans {S : Nat → Prop} {w w' w'' : World} (h : AgreeOn S w w') (k : AgreeOn S w' w'') : AgreeOn S w w'' := fun b hb => (k b hb).trans (h b hb)
def FR (ro : Option Nat) : Fence := { Fence.wide with round := ro }
theorem callsIn_FR {ro : Option Nat} {n : Nat} {P : Program} {f : FuncId} {args : Array Value} {w : World} {R : Ending → World → Prop} : CallsIn (FR ro) n P f args w R ↔ Calls P f args w R :=
  ⟨fun h => callsIn_wide.1 h, fun h => callsIn_wide.2 h⟩
def Loud (P : Program) (R : Value → World → Prop) : Result Next → Prop
  | .ok (.value v) w' => R v w'
  | .ok .skip w' => R undef w'
  | .ok (.enter f args) w' => Calls P f args w' fun e w'' => ∃ v, e = .returned v ∧ R v w''
  | .ok (.row row args) w' => Rows P row args w' R
  | .ok (.round l f tmps assign body) w' => RoundIn Fence.wide 0 P l f tmps assign body w' fun e w'' => ∃ v, e = .returned v ∧ R v w''
  | _ => False
theorem Loud.mono {P : Program} {R R' : Value → World → Prop} {r : Result Next} (h : Loud P R r) (hr : ∀ v w, R v w → R' v w) : Loud P R' r := by
  cases r with
  | ok n w' =>
    cases n <;> simp only [Loud] at h ⊢
    case value v => exact hr _ _ h
    case skip => exact hr _ _ h
    case enter f args => exact Calls.mono h fun e w'' ⟨v, he, hR⟩ => ⟨v, he, hr _ _ hR⟩
    case row row args => exact Rows.mono h hr
    case round l f tmps assign body => exact RoundIn.mono h fun e w'' ⟨v, he, hR⟩ => ⟨v, he, hr _ _ hR⟩
  | halt x w' => exact h
theorem Loud.upon {ro : Option Nat} {P : Program} {R : Value → World → Prop} {r : Result Next} {o : Oper} {a : Act} {next : Act → World → Prop} {Q : Exit → Act → World → Prop}
    (h : Loud P R r) (hn : ∀ v w', R v w' → next (a.put o.dst v) w') : o.uponIn (FR ro) 0 P a next Q r := by
  cases r with
  | ok n w' =>
    cases n <;> simp only [Loud] at h <;> simp only [Oper.uponIn]
    case value v => exact hn _ _ h
    case skip => exact hn _ _ h
    case enter f args => exact ⟨nofun, callsIn_FR.2 (Calls.mono h fun e w'' ⟨v, he, hR⟩ => by subst he; exact hn _ _ hR)⟩
    case row row args => exact ⟨nofun, fun c cs _ => let ⟨v, w'', hR, hs⟩ := h c cs; ⟨v, w'', hn _ _ hR, stepsIn_wide.2 hs⟩⟩
    case round l f tmps assign body => exact ⟨nofun, trivial, fun c cs _ => let ⟨e, w'', ⟨v, he, hR⟩, hs⟩ := h.2 c cs (room_wide _); ⟨e, w'', by subst he; exact hn _ _ hR, hs⟩⟩
  | halt x w' => exact h.elim
theorem Loud.some {P : Program} {R : Value → World → Prop} {r : Result Next} (h : Loud P R r) : ∃ v w', R v w' := by
  cases r with
  | ok n w' =>
    cases n <;> simp only [Loud] at h
    case value v => exact ⟨_, _, h⟩
    case skip => exact ⟨_, _, h⟩
    case enter f args => obtain ⟨e, w'', fr, ⟨v, _, hR⟩, _⟩ := h []; exact ⟨_, _, hR⟩
    case row row args => obtain ⟨v, w'', hR, _⟩ := h default []; exact ⟨_, _, hR⟩
    case round l f tmps assign body => obtain ⟨e, w'', ⟨v, _, hR⟩, _⟩ := h.2 default [] (room_wide _); exact ⟨_, _, hR⟩
  | halt x w' => exact h.elim
theorem semAt_value {ro : Option Nat} {P : Program} {ρ : Operand → Value} {o : Oper} {w w' : World} {v : Value} (h : (execOp ρ o).run P w = .ok (.value v) w') : o.semAt ro ρ = execOp ρ o :=
  Oper.semAt_eq ro ρ o fun c hc => by
    obtain ⟨d, op, t, p, af, g⟩ := o; simp only at hc; subst hc; simp only [execOp, Sem.run_bind, Sem.run_pure] at h; cases hq : (resolve ρ c t).run P w <;> simp [hq] at h
theorem semAt_loud {ro : Option Nat} {P : Program} {ρ : Operand → Value} {o : Oper} {w : World} {R : Value → World → Prop} (h : Loud P R ((execOp ρ o).run P w)) : o.semAt ro ρ = execOp ρ o :=
  Oper.semAt_eq ro ρ o fun c hc => by
    obtain ⟨d, op, t, p, af, g⟩ := o; simp only at hc; subst hc; simp only [execOp, Sem.run_bind, Sem.run_pure] at h; cases hq : (resolve ρ c t).run P w <;> simp [hq, Loud] at h
def wpT (P : Program) (ops : Array Oper) (S : Bool → Nat → Prop) (kd : Nat → Nat) (F : Act → World → Prop) : List Nat → Act → World → Prop
  | [], a, w => F a w
  | i :: rest, a, w =>
    match ops[i]? with
    | none => wpT P ops S kd F rest a w
    | some o =>
      if Region.wanted o (yielded ops a.tmps) = true then
        if 2 ≤ kd i then ∃ R, Loud P R ((execOp a.eval o).run P w) ∧ ∀ v w', R v w' → (AgreeOn (S false) w w' ∧ (kd i = 2 → AgreeOn (S true) w w')) ∧ wpT P ops S kd F rest (a.put o.dst v) w'
        else ∃ v, (∀ w', AgreeOn (S (kd i == 1)) w w' → (execOp a.eval o).run P w' = .ok (.value v) w') ∧ wpT P ops S kd F rest (a.put o.dst v) w
      else wpT P ops S kd F rest (a.put o.dst undef) w
def kfree (a b : Nat) : Bool := (a ≤ 1 && b ≤ 1) || (a == 0 && 2 ≤ b) || (b == 0 && 2 ≤ a) || (a == 1 && b == 2) || (a == 2 && b == 1)
section
variable {P : Program} {ops : Array Oper} {S : Bool → Nat → Prop} {kd : Nat → Nat} {F : Act → World → Prop}
theorem wpT_cons {i : Nat} {rest : List Nat} {o : Oper} (ho : ops[i]? = some o) (a : Act) (w : World) : wpT P ops S kd F (i :: rest) a w =
    (if Region.wanted o (yielded ops a.tmps) = true then
        if 2 ≤ kd i then ∃ R, Loud P R ((execOp a.eval o).run P w) ∧ ∀ v w', R v w' → (AgreeOn (S false) w w' ∧ (kd i = 2 → AgreeOn (S true) w w')) ∧ wpT P ops S kd F rest (a.put o.dst v) w'
        else ∃ v, (∀ w', AgreeOn (S (kd i == 1)) w w' → (execOp a.eval o).run P w' = .ok (.value v) w') ∧ wpT P ops S kd F rest (a.put o.dst v) w
      else wpT P ops S kd F rest (a.put o.dst undef) w) := by
  simp only [wpT, ho]
theorem wpT_cons_none {i : Nat} {rest : List Nat} (ho : ops[i]? = none) (a : Act) (w : World) : wpT P ops S kd F (i :: rest) a w = wpT P ops S kd F rest a w := by
  simp only [wpT, ho]
theorem wpT_congr {i : Nat} {l l' : List Nat} (h : ∀ a w, wpT P ops S kd F l a w → wpT P ops S kd F l' a w) (a : Act) (w : World) :
    wpT P ops S kd F (i :: l) a w → wpT P ops S kd F (i :: l') a w := by
  cases ho : ops[i]? with
  | none => rw [wpT_cons_none ho, wpT_cons_none ho]; exact h a w
  | some o =>
    rw [wpT_cons ho, wpT_cons ho]; by_cases hw : Region.wanted o (yielded ops a.tmps) = true
    · simp only [hw, if_true]; by_cases hl : 2 ≤ kd i
      · simp only [hl, if_true]; rintro ⟨R, hR, hn⟩; exact ⟨R, hR, fun v w' r => ⟨(hn v w' r).1, h _ _ (hn v w' r).2⟩⟩
      · simp only [hl]; rintro ⟨v, hv, hn⟩; exact ⟨v, hv, h _ _ hn⟩
    · simp only [hw]; exact h _ _
theorem wpT_swap (hs : Region.noSelect ops = true) {i j : Nat} {p o : Oper} {rest : List Nat} (hi : ops[i]? = some p) (hj : ops[j]? = some o) (hap : p.apart ops o = true)
    (hlo : kfree (kd i) (kd j) = true) (a : Act) (w : World) (h : wpT P ops S kd F (i :: j :: rest) a w) : wpT P ops S kd F (j :: i :: rest) a w := by
  obtain ⟨h1, h2, h3⟩ := Oper.apart_spec hap; have hsi := fun cs b => Region.noSelect_spec hs i p cs b hi; have hsj := fun cs b => Region.noSelect_spec hs j o cs b hj; have ep : ∀ v, execOp (a.put o.dst v).eval p = execOp a.eval p := fun v => execOp_put p hsi a o.dst v h3; have eo : ∀ v, execOp (a.put p.dst v).eval o = execOp a.eval o := fun v => execOp_put o hsj a p.dst v h1; have wp' : ∀ v, Region.wanted p (yielded ops (a.put o.dst v).tmps) = Region.wanted p (yielded ops a.tmps) := fun v => wanted_put p a o.dst v h3; have wo' : ∀ v, Region.wanted o (yielded ops (a.put p.dst v).tmps) = Region.wanted o (yielded ops a.tmps) := fun v => wanted_put o a p.dst v h1; have pc : ∀ v u, (a.put p.dst v).put o.dst u = (a.put o.dst u).put p.dst v := fun v u => Act.put_comm a v u h2; have hag : ∀ {x y : Nat} {w w' : World}, kfree x y = true → 2 ≤ x → (AgreeOn (S false) w w' ∧ (x = 2 → AgreeOn (S true) w w')) → AgreeOn (S (y == 1)) w w' := by
    intro x y w w' hf hx ⟨ha, hb⟩; by_cases hy : y = 1
    · subst hy; have : x = 2 := by simp [kfree] at hf; omega
      exact hb this
    · have : (y == 1) = false := by simpa using hy
      rw [this]; exact ha
  have hcomm : ∀ x y, kfree x y = true → kfree y x = true := by
    intro x y hf; simp [kfree] at hf ⊢; omega
  have hnot : ∀ x y, kfree x y = true → 2 ≤ x → ¬ 2 ≤ y := by
    intro x y hf; simp [kfree] at hf; omega
  rw [wpT_cons hi] at h; rw [wpT_cons hj]; simp only [wpT_cons hj, wo', eo, pc] at h; simp only [wpT_cons hi, wp', ep]; by_cases hwp : Region.wanted p (yielded ops a.tmps) = true <;> by_cases hwo : Region.wanted o (yielded ops a.tmps) = true
  · simp only [hwp, hwo, if_true] at h ⊢; by_cases hli : 2 ≤ kd i
    · have hlj : ¬ 2 ≤ kd j := hnot _ _ hlo hli; simp only [hli, hlj, if_true, if_false] at h ⊢; obtain ⟨R, hR, hn⟩ := h; obtain ⟨v0, w0, r0⟩ := hR.some; obtain ⟨ag0, u, hu, _⟩ := hn v0 w0 r0; have ag0' := hag hlo hli ag0; refine ⟨u, fun w' hw' => hu w' (ag0'.symm.trans hw'), R, hR, fun v w' r => ?_⟩; obtain ⟨ag, u', hu', hk⟩ := hn v w' r; refine ⟨ag, ?_⟩; have e1 := hu w' (ag0'.symm.trans (hag hlo hli ag)); have e2 := hu' w' (AgreeOn.refl w'); rw [e1] at e2; obtain rfl : u = u' := by simpa using e2
      exact hk
    · by_cases hlj : 2 ≤ kd j
      · simp only [hli, hlj, if_true, if_false] at h ⊢; obtain ⟨v, hv, R, hR, hn⟩ := h; refine ⟨R, hR, fun u w' r => ?_⟩; obtain ⟨ag, hk⟩ := hn u w' r; exact ⟨ag, v, fun w'' hw'' => hv w'' ((hag (hcomm _ _ hlo) hlj ag).trans hw''), hk⟩
      · simp only [hli, hlj, if_false] at h ⊢; obtain ⟨v, hv, u, hu, hk⟩ := h; exact ⟨u, hu, v, hv, hk⟩
  · simp only [hwp, hwo, if_true, if_false, Bool.false_eq_true] at h ⊢; exact h
  · simp only [hwp, hwo, if_true, if_false, Bool.false_eq_true] at h ⊢; exact h
  · simp only [hwp, hwo, if_false, Bool.false_eq_true] at h ⊢; exact h
theorem wpT_front (hs : Region.noSelect ops = true) {j : Nat} {o : Oper} (hj : ops[j]? = some o) : ∀ (pre post : List Nat),
    (∀ i ∈ pre, ∀ p, ops[i]? = some p → p.apart ops o = true ∧ kfree (kd i) (kd j) = true) → ∀ (a : Act) (w : World),
    wpT P ops S kd F (pre ++ j :: post) a w → wpT P ops S kd F (j :: (pre ++ post)) a w
  | [], _, _, _, _, h => h
  | i :: pre, post, hp, a, w, h => by
    have h1 : wpT P ops S kd F (i :: j :: (pre ++ post)) a w :=
      wpT_congr (fun a w => wpT_front hs hj pre post (fun k hk => hp k (List.mem_cons_of_mem _ hk)) a w) a w h
    cases hi : ops[i]? with
    | none =>
      rw [wpT_cons_none hi] at h1; have h2 : ∀ a w, wpT P ops S kd F (pre ++ post) a w → wpT P ops S kd F (i :: (pre ++ post)) a w := fun a w h => by rw [wpT_cons_none hi]; exact h
      exact wpT_congr h2 a w h1
    | some p =>
      obtain ⟨q1, q2⟩ := hp i List.mem_cons_self p hi; exact wpT_swap hs hi hj q1 q2 a w h1
def chkAt (ops : Array Oper) (kd : Nat → Nat) (cl : Array Nat) (i : Nat) : Bool :=
  match ops[i]? with
  | none => true
  | some o =>
    (o.after.all fun e => !Region.binds .any e || decide (e.on < i)) &&
    (List.range i).all fun j =>
      if (cl.getD i 0).testBit j then o.after.any fun e => Region.binds .any e && (e.on == j || (decide (j < e.on) && (cl.getD e.on 0).testBit j))
      else match ops[j]? with
        | none => true
        | some p => p.apart ops o && kfree (kd j) (kd i)
def chk (ops : Array Oper) (kd : Nat → Nat) : Bool :=
  Region.noSelect ops && (let cl := Region.before ops; (List.range ops.size).all (chkAt ops kd cl))
theorem chk_edge {cl : Array Nat} {i : Nat} {o : Oper} (ho : ops[i]? = some o) (h : chkAt ops kd cl i = true) {e : Edge} (he : e ∈ o.after) (hb : Region.binds .any e = true) : e.on < i := by
  simp only [chkAt, ho, Bool.and_eq_true] at h; have := Array.all_eq_true_iff_forall_mem.1 h.1 e he; simpa [hb] using this
theorem chk_closed {cl : Array Nat} (hc : ∀ i, i < ops.size → chkAt ops kd cl i = true) {listed : Array Bool}
    (hl : ∀ i o, ops[i]? = some o → listed.getD i false = true → ∀ e ∈ o.after, Region.binds .any e = true → listed.getD e.on false = true) :
    ∀ (n i : Nat), i ≤ n → ∀ o, ops[i]? = some o → (∀ e ∈ o.after, Region.binds .any e = true → listed.getD e.on false = true) →
      ∀ j, j < i → (cl.getD i 0).testBit j = true → listed.getD j false = true := by
  intro n
  induction n with
  | zero => intro i hi o ho ha j hj; omega
  | succ n ih =>
    intro i hi o ho ha j hj hbit; have hlt : i < ops.size := (Array.getElem?_eq_some_iff.1 ho).1; have h := hc i hlt; have hed := fun e he hb => chk_edge ho h (e := e) he hb; simp only [chkAt, ho, Bool.and_eq_true, List.all_eq_true, List.mem_range] at h; have h2 := h.2 j hj; simp only [hbit, if_true] at h2; obtain ⟨e, he, hx⟩ := Array.any_eq_true'.1 h2; simp only [Bool.and_eq_true, Bool.or_eq_true, beq_iff_eq, decide_eq_true_eq] at hx; obtain ⟨hb, hx⟩ := hx; rcases hx with hx | ⟨hje, hx⟩
    · rw [← hx]; exact ha e he hb
    · have hon := hed e he hb; have hs : e.on < ops.size := by omega
      have ho' : ops[e.on]? = some ops[e.on] := by simp [hs]
      exact ih e.on (by omega) _ ho' (hl _ _ ho' (ha e he hb)) j hje hx
def rem (ops : Array Oper) (listed : Array Bool) : List Nat := (List.range ops.size).filter fun i => !listed.getD i true
theorem mem_rem {listed : Array Bool} {i : Nat} : i ∈ rem ops listed ↔ i < ops.size ∧ listed.getD i true = false := by
  simp [rem]
theorem filter_split {α : Type} (p : α → Bool) : ∀ (l : List α) (x : α), l.Nodup → x ∈ l → p x = true →
    ∃ pre post, l.filter p = pre ++ x :: post ∧ (∀ q : α → Bool, (∀ y ∈ l, y ≠ x → q y = p y) → q x = false → l.filter q = pre ++ post) ∧ (∀ y ∈ pre, y ∈ l) ∧ ∃ l1 l2, l = l1 ++ x :: l2 ∧ pre = l1.filter p := by
  intro l
  induction l with
  | nil => intro x _ h; cases h
  | cons y l ih =>
    intro x hnd hx hpx; rw [List.nodup_cons] at hnd; by_cases hxy : x = y
    · subst hxy; refine ⟨[], l.filter p, by simp [hpx], fun q hq hqx => ?_, by simp, [], l, rfl, rfl⟩; simp only [List.filter_cons, hqx, List.nil_append, Bool.false_eq_true, if_false]; exact List.filter_congr fun z hz => hq z (List.mem_cons_of_mem _ hz) (fun e => hnd.1 (e ▸ hz))
    · have hxl : x ∈ l := by
        cases hx with
        | head => exact absurd rfl hxy
        | tail _ h => exact h
      obtain ⟨pre, post, e1, e2, e3, l1, l2, e4, e5⟩ := ih x hnd.2 hxl hpx; by_cases hpy : p y = true
      · refine ⟨y :: pre, post, by simp [hpy, e1], fun q hq hqx => ?_, ?_, y :: l1, l2, by simp [e4], by simp [hpy, e5]⟩
        · have : q y = true := by rw [hq y List.mem_cons_self (fun e => hxy e.symm)]; exact hpy
          simp only [List.filter_cons, this, if_true, List.cons_append]; rw [e2 q (fun z hz => hq z (List.mem_cons_of_mem _ hz)) hqx]
        · intro z hz
          cases hz with
          | head => exact List.mem_cons_self
          | tail _ h => exact List.mem_cons_of_mem _ (e3 z h)
      · refine ⟨pre, post, by simp [hpy, e1], fun q hq hqx => ?_, fun z hz => List.mem_cons_of_mem _ (e3 z hz), y :: l1, l2, by simp [e4], by simp [hpy, e5]⟩; have : q y = false := by rw [hq y List.mem_cons_self (fun e => hxy e.symm)]; simpa using hpy
        simp only [List.filter_cons, this, Bool.false_eq_true, if_false]; exact e2 q (fun z hz => hq z (List.mem_cons_of_mem _ hz)) hqx
theorem range_split_lt {n : Nat} {l1 l2 : List Nat} {x : Nat} (h : List.range n = l1 ++ x :: l2) : ∀ y ∈ l1, y < x := by
  intro y hy; have hs : (List.range n).Pairwise (· < ·) := List.pairwise_lt_range; rw [h, List.pairwise_append] at hs; exact hs.2.2 y hy x List.mem_cons_self
theorem wpT_any {ro : Option Nat} {Q : Exit → Act → World → Prop} (hc : chk ops kd = true) (hQ : ∀ a w, F a w → Q .normal a w) :
    ∀ (fuel : Nat) (listed : Array Bool) (a : Act) (w : World), listed.size = ops.size → (rem ops listed).length ≤ fuel →
      (∀ i o, ops[i]? = some o → listed.getD i false = true → ∀ e ∈ o.after, Region.binds .any e = true → listed.getD e.on false = true) →
      wpT P ops S kd F (rem ops listed) a w → wpAnyIn (FR ro) 0 P .any ops Q fuel listed a w := by
  simp only [chk, Bool.and_eq_true, List.all_eq_true, List.mem_range] at hc; obtain ⟨hs, hc⟩ := hc; have hready : ∀ listed : Array Bool, Region.ready .any ops listed = [] → rem ops listed = [] := by
    intro listed hr
    cases hre : rem ops listed with
    | nil => rfl
    | cons i rest =>
      exfalso
      have hi : i ∈ rem ops listed := by rw [hre]; exact List.mem_cons_self
      obtain ⟨h1, h2⟩ := mem_rem.1 hi; have ho : ops[i]? = some ops[i] := by simp [h1]
      have hmem : i ∈ Region.ready .any ops listed := by
        refine mem_ready.2 ⟨h2, _, ho, fun e he hb => ?_⟩; have hlt := chk_edge ho (hc i h1) he hb
        cases hl : listed.getD e.on false with
        | true => rfl
        | false =>
          exfalso
          have hin : e.on ∈ rem ops listed := mem_rem.2 ⟨by omega, by
            rcases Nat.lt_or_ge e.on listed.size with h' | h'
            · simp [h'] at hl ⊢; exact hl
            · exfalso
              have h2' := h2; rw [Array.getD_eq_getD_getElem?, Array.getElem?_eq_none (by omega)] at h2'
              simp at h2'⟩
          have hp : (rem ops listed).Pairwise (· < ·) := (List.pairwise_lt_range).filter _; rw [hre] at hin hp; rw [List.pairwise_cons] at hp
          cases hin with
          | head => omega
          | tail _ h => have := hp.1 _ h; omega
      rw [hr] at hmem; cases hmem
  intro fuel
  induction fuel with
  | zero =>
    intro listed a w _ hlen _ h; have hre : rem ops listed = [] := List.eq_nil_of_length_eq_zero (by omega); rw [hre] at h; refine ⟨?_, hQ a w h⟩
    cases hr : Region.ready .any ops listed with
    | nil => rfl
    | cons i rest =>
      exfalso
      have hi : i ∈ Region.ready .any ops listed := by rw [hr]; exact List.mem_cons_self
      obtain ⟨h1, o, ho, _⟩ := mem_ready.1 hi; have : i ∈ rem ops listed := mem_rem.2 ⟨(Array.getElem?_eq_some_iff.1 ho).1, h1⟩; rw [hre] at this; cases this
  | succ fuel ih =>
    intro listed a w hsz hlen hcl h; refine ⟨fun hr => ?_, fun i hi => ?_⟩
    · rw [hready listed hr] at h; exact hQ a w h
    · obtain ⟨h1, o, ho, hall⟩ := mem_ready.1 hi; have hin : i < ops.size := (Array.getElem?_eq_some_iff.1 ho).1; obtain ⟨pre, post, e1, e2, e3, l1, l2, e4, e5⟩ := filter_split (fun i => !listed.getD i true) (List.range ops.size) i List.nodup_range (List.mem_range.2 hin) (by simp only [h1, Bool.not_false]); have hrem : rem ops listed = pre ++ i :: post := e1; have hrem' : rem ops (listed.setIfInBounds i true) = pre ++ post := by
        refine e2 _ (fun y _ hne => ?_) ?_
        · rw [getD_set_ne true (Ne.symm hne)]
        · simp [hsz, hin]
      rw [hrem] at h; have hf := wpT_front hs ho pre post (fun j hj p hp => by
        have hjl : j < i := by
          rw [e5] at hj; exact range_split_lt e4 j (List.mem_filter.1 hj).1
        have hjun : listed.getD j true = false := by
          have : j ∈ rem ops listed := by rw [hrem]; exact List.mem_append_left _ hj
          exact (mem_rem.1 this).2
        have hk := hc i hin; by_cases hbit : ((Region.before ops).getD i 0).testBit j = true
        · exfalso
          have := chk_closed hc hcl i i (Nat.le_refl _) o ho hall j hjl hbit; rcases Nat.lt_or_ge j listed.size with h' | h'
          · simp [h'] at hjun this; rw [hjun] at this; cases this
          · omega
        · simp only [chkAt, ho, Bool.and_eq_true, List.all_eq_true, List.mem_range] at hk; have hk2 := hk.2 j hjl; simp only [hbit, hp, Bool.false_eq_true, if_false, Bool.and_eq_true] at hk2
          exact hk2) a w h
      have hlen' : (pre ++ post).length ≤ fuel := by rw [hrem] at hlen; simp at hlen ⊢; omega
      have hcl' : ∀ k ok, ops[k]? = some ok → (listed.setIfInBounds i true).getD k false = true → ∀ e ∈ ok.after, Region.binds .any e = true → (listed.setIfInBounds i true).getD e.on false = true := by
        intro k ok hk hlk e he hb; by_cases hki : i = k
        · subst hki; rw [ho] at hk; obtain rfl := Option.some.inj hk; exact getD_set_true (hall e he hb)
        · rw [getD_set_ne false hki] at hlk; exact getD_set_true (hcl k ok hk hlk e he hb)
      have IH : ∀ a w, wpT P ops S kd F (pre ++ post) a w → wpAnyIn (FR ro) 0 P .any ops Q fuel (listed.setIfInBounds i true) a w := fun a w hh =>
        ih _ a w (by simp [hsz]) (by rw [hrem']; exact hlen') hcl' (by rw [hrem']; exact hh)
      rw [wpT_cons ho] at hf; unfold wpOpIn; simp only [ho]; by_cases hw : Region.wanted o (yielded ops a.tmps) = true
      · simp only [hw, if_true] at hf ⊢; refine ⟨fun _ _ => trivial, ?_⟩; by_cases hl : 2 ≤ kd i
        · simp only [hl, if_true] at hf; obtain ⟨R, hR, hn⟩ := hf; rw [semAt_loud hR]; exact hR.upon fun v w' r => IH _ _ (hn v w' r).2
        · simp only [hl, if_false] at hf; obtain ⟨v, hv, hn⟩ := hf; have hv0 := hv w (AgreeOn.refl w); rw [semAt_value hv0, hv0]; exact IH _ _ hn
      · simp only [hw, if_false, Bool.false_eq_true] at hf ⊢; exact ⟨fun _ _ => trivial, IH _ _ hf⟩
theorem wp_region_text {ro : Option Nat} {Q : Exit → Act → World → Prop} {id : Nat} {a : Act} {w : World} (hm : P.follows .mixedOrders = true) (hc : chk ops kd = true)
    (h : wpT P ops S kd (Q .normal) (List.range ops.size) a w.drew) : (Code.region id ops true).wpIn (FR ro) 0 P Q a w := by
  refine wpIn_region_any hm (wpT_any (S := S) (F := Q .normal) hc (fun _ _ h => h) ops.size _ a _ (by simp) ?_ ?_ ?_)
  · exact Nat.le_trans (List.length_filter_le _ _) (by simp)
  · intro i o ho hl
    exfalso
    have hin : i < ops.size := (Array.getElem?_eq_some_iff.1 ho).1; simp [hin] at hl
  · have e : rem ops (Array.replicate ops.size false) = List.range ops.size := by
      unfold rem; rw [List.filter_eq_self]; intro i hi; simp [List.mem_range.1 hi]
    rw [e]; exact h
end
end Go.Proofs.Ytlplogplicgfiaa
