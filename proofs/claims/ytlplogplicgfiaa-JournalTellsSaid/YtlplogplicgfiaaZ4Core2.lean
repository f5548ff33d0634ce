import Derived.Test.YtlplogplicgfiaaZ4Mem
namespace Go.Proofs.Ytlplogplicgfiaa
open Go
def junk (N0 : Nat) (K : Nat → Prop) (w : World) (b : Nat) : Prop := N0 ≤ b ∧ b < w.heap.size ∧ ¬ K b
structure Inv (N0 : Nat) (K : Nat → Prop) (w : World) : Prop where
  size : N0 ≤ w.heap.size
  lt : ∀ b, K b → b < w.heap.size
def stepF (P : Program) (ops : Array Oper) (N0 : Nat) (S : Bool → Nat → Prop) (kd : Nat → Nat) (i : Nat) (o : Oper) (G : (Nat → Prop) → Act → World → Prop) (K : Nat → Prop) (a : Act) (w : World) : Prop :=
  if Region.wanted o (yielded ops a.tmps) = true then
    if kd i = 4 then ∃ (obj : Obj) (vf : Nat → Value), (∀ w1, (execOp a.eval o).run P w1 = .ok (.value (vf w1.heap.size)) (w1.alloc obj)) ∧
      ∀ w1 b, Ext w w1 → N0 ≤ b → ¬ K b → w1.heap[b]? = some obj → G (fun x => K x ∨ x = b) (a.put o.dst (vf b)) w1
    else if 2 ≤ kd i then ∀ w1, Ext w w1 → ∃ R, Loud P R ((execOp a.eval o).run P w1) ∧ ∀ v w', R v w' →
      (AgreeOn (S false) w1 w' ∧ (kd i = 2 → AgreeOn (S true) w1 w') ∧ AgreeOn (junk N0 K w1) w1 w' ∧ w1.heap.size ≤ w'.heap.size) ∧ G (fun x => K x ∨ (w1.heap.size ≤ x ∧ x < w'.heap.size)) (a.put o.dst v) w'
    else ∃ v, (∀ w', AgreeOn (S (kd i == 1)) w w' → (execOp a.eval o).run P w' = .ok (.value v) w') ∧ G K (a.put o.dst v) w
  else G K (a.put o.dst undef) w
def wpF (P : Program) (ops : Array Oper) (N0 : Nat) (S : Bool → Nat → Prop) (kd : Nat → Nat) (F : Act → World → Prop) : List Nat → (Nat → Prop) → Act → World → Prop
  | [], _, a, w => F a w
  | i :: rest, K, a, w =>
    match ops[i]? with
    | none => wpF P ops N0 S kd F rest K a w
    | some o => stepF P ops N0 S kd i o (wpF P ops N0 S kd F rest) K a w
def kfreeF (a b : Nat) : Bool := if a = 4 then (decide (b ≤ 1) || b == 4) else if b = 4 then true else kfree a b
section
variable {P : Program} {ops : Array Oper} {N0 : Nat} {S : Bool → Nat → Prop} {kd : Nat → Nat} {F : Act → World → Prop}
theorem wpF_cons {i : Nat} {rest : List Nat} {o : Oper} (ho : ops[i]? = some o) (K : Nat → Prop) (a : Act) (w : World) : wpF P ops N0 S kd F (i :: rest) K a w = stepF P ops N0 S kd i o (wpF P ops N0 S kd F rest) K a w := by
  simp only [wpF, ho]
theorem wpF_cons_none {i : Nat} {rest : List Nat} (ho : ops[i]? = none) (K : Nat → Prop) (a : Act) (w : World) : wpF P ops N0 S kd F (i :: rest) K a w = wpF P ops N0 S kd F rest K a w := by
  simp only [wpF, ho]
theorem Inv.ext {K : Nat → Prop} {w w1 : World} (h : Inv N0 K w) (u : Ext w w1) : Inv N0 K w1 := ⟨Nat.le_trans h.size u.size, fun b hb => Nat.lt_of_lt_of_le (h.lt b hb) u.size⟩
theorem Inv.float {K : Nat → Prop} {w w1 : World} {b : Nat} {obj : Obj} (h : Inv N0 K w) (u : Ext w w1) (hb : w1.heap[b]? = some obj) : Inv N0 (fun x => K x ∨ x = b) w1 :=
  ⟨(h.ext u).size, fun x hx => hx.elim ((h.ext u).lt x) (fun e => by subst e; exact lt_of_get hb)⟩
theorem Inv.loud {K : Nat → Prop} {w1 w' : World} (h : Inv N0 K w1) (u : w1.heap.size ≤ w'.heap.size) : Inv N0 (fun x => K x ∨ (w1.heap.size ≤ x ∧ x < w'.heap.size)) w' :=
  ⟨Nat.le_trans h.size u, fun x hx => hx.elim (fun k => Nat.lt_of_lt_of_le (h.lt x k) u) (fun k => k.2)⟩
theorem agS (hS : ∀ c b, S c b → b < N0) {K : Nat → Prop} {w w1 : World} (hI : Inv N0 K w) (u : Ext w w1) (c : Bool) : AgreeOn (S c) w w1 := fun b hb => u.blk b (Nat.lt_of_lt_of_le (hS c b hb) hI.size) id
theorem stepF_mono {i : Nat} {o : Oper} {G G' : (Nat → Prop) → Act → World → Prop} (h : ∀ K a w, Inv N0 K w → G K a w → G' K a w) {K : Nat → Prop} {a : Act} {w : World} (hI : Inv N0 K w) (hh : stepF P ops N0 S kd i o G K a w) : stepF P ops N0 S kd i o G' K a w := by
  unfold stepF at *; by_cases hw : Region.wanted o (yielded ops a.tmps) = true
  · simp only [hw, if_true] at hh ⊢; by_cases h4 : kd i = 4
    · have e4 := eq_true h4; simp only [e4, if_true] at hh ⊢; obtain ⟨obj, vf, hr, hn⟩ := hh; exact ⟨obj, vf, hr, fun w1 b u hb hk ho => h _ _ _ (hI.float u ho) (hn w1 b u hb hk ho)⟩
    · simp only [h4, if_false] at hh ⊢; by_cases h2 : 2 ≤ kd i
      · simp only [h2, if_true] at hh ⊢; intro w1 u; obtain ⟨R, hR, hn⟩ := hh w1 u; exact ⟨R, hR, fun v w' r => ⟨(hn v w' r).1, h _ _ _ ((hI.ext u).loud (hn v w' r).1.2.2.2) (hn v w' r).2⟩⟩
      · simp only [h2, if_false] at hh ⊢; obtain ⟨v, hv, hn⟩ := hh; exact ⟨v, hv, h _ _ _ hI hn⟩
  · simp only [hw, Bool.false_eq_true, if_false] at hh ⊢; exact h _ _ _ hI hh
theorem wpF_congr {i : Nat} {l l' : List Nat} (h : ∀ K a w, Inv N0 K w → wpF P ops N0 S kd F l K a w → wpF P ops N0 S kd F l' K a w) {K : Nat → Prop} {a : Act} {w : World} (hI : Inv N0 K w) :
    wpF P ops N0 S kd F (i :: l) K a w → wpF P ops N0 S kd F (i :: l') K a w := by
  cases ho : ops[i]? with
  | none => rw [wpF_cons_none ho, wpF_cons_none ho]; exact h K a w hI
  | some o =>
    rw [wpF_cons ho, wpF_cons ho]; exact stepF_mono h hI
theorem float_inj {x : Sem Next} {obj obj2 : Obj} {vf vf2 : Nat → Value} (w : World) (h : ∀ w1, x.run P w1 = .ok (.value (vf w1.heap.size)) (w1.alloc obj)) (h2 : ∀ w1, x.run P w1 = .ok (.value (vf2 w1.heap.size)) (w1.alloc obj2)) : obj = obj2 ∧ vf = vf2 := by
  constructor
  · have e1 := h w; rw [h2 w] at e1
    injection e1 with _ e2
    have e3 : (w.heap.push obj2)[w.heap.size]? = (w.heap.push obj)[w.heap.size]? := congrArg (fun x : World => x.heap[w.heap.size]?) e2; rw [Array.getElem?_push_size, Array.getElem?_push_size] at e3; exact (Option.some.inj e3).symm
  · funext n
    have a1 := h { w with heap := Array.replicate n obj }; rw [h2] at a1
    injection a1 with a2 _
    injection a2 with a3
    simp only [Array.size_replicate] at a3; exact a3.symm
theorem stepF_swap (hs : Region.noSelect ops = true) (hS : ∀ c b, S c b → b < N0) {i j : Nat} {p o : Oper} {G : (Nat → Prop) → Act → World → Prop} (hi : ops[i]? = some p) (hj : ops[j]? = some o) (hap : p.apart ops o = true)
    (hlo : kfreeF (kd i) (kd j) = true) {K : Nat → Prop} {a : Act} {w : World} (hI : Inv N0 K w) (h : stepF P ops N0 S kd i p (stepF P ops N0 S kd j o G) K a w) : stepF P ops N0 S kd j o (stepF P ops N0 S kd i p G) K a w := by
  obtain ⟨h1, h2, h3⟩ := Oper.apart_spec hap; have hsi := fun cs b => Region.noSelect_spec hs i p cs b hi; have hsj := fun cs b => Region.noSelect_spec hs j o cs b hj; have ep : ∀ v, execOp (a.put o.dst v).eval p = execOp a.eval p := fun v => execOp_put p hsi a o.dst v h3; have eo : ∀ v, execOp (a.put p.dst v).eval o = execOp a.eval o := fun v => execOp_put o hsj a p.dst v h1; have wp' : ∀ v, Region.wanted p (yielded ops (a.put o.dst v).tmps) = Region.wanted p (yielded ops a.tmps) := fun v => wanted_put p a o.dst v h3; have wo' : ∀ v, Region.wanted o (yielded ops (a.put p.dst v).tmps) = Region.wanted o (yielded ops a.tmps) := fun v => wanted_put o a p.dst v h1; have pc : ∀ v u, (a.put p.dst v).put o.dst u = (a.put o.dst u).put p.dst v := fun v u => Act.put_comm a v u h2; have ags := fun {w1 : World} (u : Ext w w1) (c : Bool) => agS hS hI u c; simp only [stepF, wo', eo, pc] at h; simp only [stepF, wp', ep]; by_cases hwp : Region.wanted p (yielded ops a.tmps) = true <;> by_cases hwo : Region.wanted o (yielded ops a.tmps) = true
  · simp only [hwp, hwo, if_true] at h ⊢; by_cases hi4 : kd i = 4
    · have ei4 := eq_true hi4; by_cases hj4 : kd j = 4
      ·
        have ej4 := eq_true hj4; simp only [ei4, ej4, if_true] at h ⊢; obtain ⟨obj, vf, hr, hn⟩ := h; obtain ⟨obj', vf', hr', _⟩ := hn (w.alloc obj) w.heap.size (Upd.push _ _) hI.size (fun k => Nat.lt_irrefl _ (hI.lt _ k)) (by show (w.heap.push obj)[w.heap.size]? = _; simp); refine ⟨obj', vf', hr', fun w1 b u hb hk ho => ⟨obj, vf, hr, fun w2 b2 u2 hb2 hk2 ho2 => ?_⟩⟩; have hb12 : b2 ≠ b := fun e => hk2 (.inr e); obtain ⟨obj2, vf2, hr2, hn2⟩ := hn w2 b2 (u.ext u2) hb2 (fun k => hk2 (.inl k)) ho2; obtain ⟨eobj, evf⟩ := float_inj w hr' hr2; subst eobj evf; have := hn2 w2 b (Upd.refl _) hb (fun k => k.elim hk (fun e => hb12 e.symm)) ((u2.blk b (lt_of_get ho) id).trans ho); have eK : (fun x => (K x ∨ x = b) ∨ x = b2) = (fun x => (K x ∨ x = b2) ∨ x = b) := by
          funext x; exact propext ⟨fun h => by rcases h with (h | h) | h <;> simp [h], fun h => by rcases h with (h | h) | h <;> simp [h]⟩
        rw [eK]; exact this
      ·
        have hj2 : ¬ 2 ≤ kd j := by
          simp only [kfreeF, hi4, if_true, Bool.or_eq_true, decide_eq_true_eq, beq_iff_eq] at hlo; omega
        simp only [ei4, hj4, hj2, if_true, if_false] at h ⊢; obtain ⟨obj, vf, hr, hn⟩ := h; have u0 : Ext w (w.alloc obj) := Upd.push _ _; obtain ⟨v0, hv0, _⟩ := hn (w.alloc obj) w.heap.size u0 hI.size (fun k => Nat.lt_irrefl _ (hI.lt _ k)) (by show (w.heap.push obj)[w.heap.size]? = _; simp); refine ⟨v0, fun w' hw' => hv0 w' ((ags u0 _).symm.trans hw'), obj, vf, hr, fun w1 b u hb hk ho => ?_⟩; obtain ⟨v, hv, hk'⟩ := hn w1 b u hb hk ho; have e1 := hv0 w1 ((ags u0 _).symm.trans (ags u _)); have e2 := hv w1 (AgreeOn.refl _); rw [e1] at e2; obtain rfl : v0 = v := by simpa using e2
        exact hk'
    · by_cases hj4 : kd j = 4
      · have ej4 := eq_true hj4; by_cases hi2 : 2 ≤ kd i
        ·
          simp only [hi4, hi2, ej4, if_true, if_false] at h ⊢; obtain ⟨R0, hR0, hn0⟩ := h w (Upd.refl _); obtain ⟨v0, w0, r0⟩ := hR0.some; obtain ⟨_, obj, vf, hr, _⟩ := hn0 v0 w0 r0; refine ⟨obj, vf, hr, fun w1 b u hb hk ho w2 u2 => ?_⟩; obtain ⟨R, hR, hn⟩ := h w2 (u.ext u2); refine ⟨R, hR, fun v w' r => ?_⟩; obtain ⟨⟨c1, c2, c3, c4⟩, obj2, vf2, hr2, hn2⟩ := hn v w' r; obtain ⟨eobj, evf⟩ := float_inj w hr hr2; subst eobj evf; have hb1 := lt_of_get ho; have hb2 : b < w2.heap.size := Nat.lt_of_lt_of_le hb1 u2.size; refine ⟨⟨c1, c2, fun x hx => c3 x ⟨hx.1, hx.2.1, fun k => hx.2.2 (.inl k)⟩, c4⟩, ?_⟩; have := hn2 w' b (Upd.refl _) hb (fun k => k.elim hk (fun e => by omega)) ((c3 b ⟨hb, hb2, hk⟩).trans ((u2.blk b hb1 id).trans ho)); have eK : (fun x => (K x ∨ x = b) ∨ (w2.heap.size ≤ x ∧ x < w'.heap.size)) = (fun x => (K x ∨ (w2.heap.size ≤ x ∧ x < w'.heap.size)) ∨ x = b) := by
            funext x; exact propext ⟨fun h => by rcases h with (h | h) | h <;> simp [h], fun h => by rcases h with (h | h) | h <;> simp [h]⟩
          rw [eK]; exact this
        ·
          simp only [hi4, hi2, ej4, if_true, if_false] at h ⊢; obtain ⟨v, hv, obj, vf, hr, hn⟩ := h; exact ⟨obj, vf, hr, fun w1 b u hb hk ho => ⟨v, fun w' hw' => hv w' ((ags u _).trans hw'), hn w1 b u hb hk ho⟩⟩
      · have hlo' : kfree (kd i) (kd j) = true := by simpa only [kfreeF, hi4, hj4, if_false] using hlo
        have hag : ∀ {x y : Nat} {w w' : World}, kfree x y = true → 2 ≤ x → AgreeOn (S false) w w' → (x = 2 → AgreeOn (S true) w w') → AgreeOn (S (y == 1)) w w' := by
          intro x y w w' hf hx ha hb; by_cases hy : y = 1
          · subst hy; have : x = 2 := by simp [kfree] at hf; omega
            exact hb this
          · have : (y == 1) = false := by simpa using hy
            rw [this]; exact ha
        have hcomm : ∀ x y, kfree x y = true → kfree y x = true := by
          intro x y hf; simp [kfree] at hf ⊢; omega
        by_cases hi2 : 2 ≤ kd i
        · have hj2 : ¬ 2 ≤ kd j := by simp [kfree] at hlo'; omega
          simp only [hi4, hj4, hi2, hj2, if_true, if_false] at h ⊢; obtain ⟨R0, hR0, hn0⟩ := h w (Upd.refl _); obtain ⟨v0, w0, r0⟩ := hR0.some; obtain ⟨⟨c1, c2, _⟩, u0, hu0, _⟩ := hn0 v0 w0 r0; have ag0 := hag hlo' hi2 c1 c2; refine ⟨u0, fun w' hw' => hu0 w' (ag0.symm.trans hw'), fun w1 u => ?_⟩; obtain ⟨R, hR, hn⟩ := h w1 u; refine ⟨R, hR, fun v w' r => ?_⟩; obtain ⟨c, u', hu', hk⟩ := hn v w' r; refine ⟨c, ?_⟩; have e1 := hu0 w' (ag0.symm.trans ((ags u _).trans (hag hlo' hi2 c.1 c.2.1))); have e2 := hu' w' (AgreeOn.refl w'); rw [e1] at e2; obtain rfl : u0 = u' := by simpa using e2
          exact hk
        · by_cases hj2 : 2 ≤ kd j
          · simp only [hi4, hj4, hi2, hj2, if_true, if_false] at h ⊢; obtain ⟨v, hv, hn⟩ := h; intro w1 u; obtain ⟨R, hR, hn'⟩ := hn w1 u; refine ⟨R, hR, fun x w' r => ?_⟩; obtain ⟨c, hk⟩ := hn' x w' r; exact ⟨c, v, fun w'' hw'' => hv w'' (((ags u _).trans (hag (hcomm _ _ hlo') hj2 c.1 c.2.1)).trans hw''), hk⟩
          · simp only [hi4, hj4, hi2, hj2, if_false] at h ⊢; obtain ⟨v, hv, u, hu, hk⟩ := h; exact ⟨u, hu, v, hv, hk⟩
  · simp only [hwp, hwo, if_true, if_false, Bool.false_eq_true] at h ⊢; exact h
  · simp only [hwp, hwo, if_true, if_false, Bool.false_eq_true] at h ⊢; exact h
  · simp only [hwp, hwo, if_false, Bool.false_eq_true] at h ⊢; exact h
theorem wpF_front (hs : Region.noSelect ops = true) (hS : ∀ c b, S c b → b < N0) {j : Nat} {o : Oper} (hj : ops[j]? = some o) : ∀ (pre post : List Nat),
    (∀ i ∈ pre, ∀ p, ops[i]? = some p → p.apart ops o = true ∧ kfreeF (kd i) (kd j) = true) → ∀ (K : Nat → Prop) (a : Act) (w : World), Inv N0 K w →
    wpF P ops N0 S kd F (pre ++ j :: post) K a w → wpF P ops N0 S kd F (j :: (pre ++ post)) K a w
  | [], _, _, _, _, _, _, h => h
  | i :: pre, post, hp, K, a, w, hI, h => by
    have h1 : wpF P ops N0 S kd F (i :: j :: (pre ++ post)) K a w :=
      wpF_congr (fun K a w hI => wpF_front hs hS hj pre post (fun k hk => hp k (List.mem_cons_of_mem _ hk)) K a w hI) hI h
    cases hi : ops[i]? with
    | none =>
      rw [wpF_cons_none hi] at h1; have h2 : ∀ K a w, Inv N0 K w → wpF P ops N0 S kd F (pre ++ post) K a w → wpF P ops N0 S kd F (i :: (pre ++ post)) K a w := fun K a w _ h => by rw [wpF_cons_none hi]; exact h
      exact wpF_congr h2 hI h1
    | some p =>
      obtain ⟨q1, q2⟩ := hp i List.mem_cons_self p hi; rw [wpF_cons hi] at h1; have h2 : stepF P ops N0 S kd i p (stepF P ops N0 S kd j o (wpF P ops N0 S kd F (pre ++ post))) K a w := stepF_mono (fun K a w _ h => by rw [wpF_cons hj] at h; exact h) hI h1; have h3 := stepF_swap hs hS hi hj q1 q2 hI h2; rw [wpF_cons hj]; exact stepF_mono (fun K a w _ h => by
        show wpF P ops N0 S kd F (i :: (pre ++ post)) K a w
        rw [wpF_cons hi]; exact h) hI h3
def chkAtF (ops : Array Oper) (kd : Nat → Nat) (cl : Array Nat) (i : Nat) : Bool :=
  match ops[i]? with
  | none => true
  | some o =>
    (o.after.all fun e => !Region.binds .any e || decide (e.on < i)) &&
    (List.range i).all fun j =>
      if (cl.getD i 0).testBit j then o.after.any fun e => Region.binds .any e && (e.on == j || (decide (j < e.on) && (cl.getD e.on 0).testBit j))
      else match ops[j]? with
        | none => true
        | some p => p.apart ops o && kfreeF (kd j) (kd i)
def chkF (ops : Array Oper) (kd : Nat → Nat) : Bool :=
  Region.noSelect ops && (let cl := Region.before ops; (List.range ops.size).all (chkAtF ops kd cl))
theorem chkF_edge {cl : Array Nat} {i : Nat} {o : Oper} (ho : ops[i]? = some o) (h : chkAtF ops kd cl i = true) {e : Edge} (he : e ∈ o.after) (hb : Region.binds .any e = true) : e.on < i := by
  simp only [chkAtF, ho, Bool.and_eq_true] at h; have := Array.all_eq_true_iff_forall_mem.1 h.1 e he; simpa [hb] using this
theorem chkF_closed {cl : Array Nat} (hc : ∀ i, i < ops.size → chkAtF ops kd cl i = true) {listed : Array Bool}
    (hl : ∀ i o, ops[i]? = some o → listed.getD i false = true → ∀ e ∈ o.after, Region.binds .any e = true → listed.getD e.on false = true) :
    ∀ (n i : Nat), i ≤ n → ∀ o, ops[i]? = some o → (∀ e ∈ o.after, Region.binds .any e = true → listed.getD e.on false = true) →
      ∀ j, j < i → (cl.getD i 0).testBit j = true → listed.getD j false = true := by
  intro n
  induction n with
  | zero => intro i hi o ho ha j hj; omega
  | succ n ih =>
    intro i hi o ho ha j hj hbit; have hlt : i < ops.size := (Array.getElem?_eq_some_iff.1 ho).1; have h := hc i hlt; have hed := fun e he hb => chkF_edge ho h (e := e) he hb; simp only [chkAtF, ho, Bool.and_eq_true, List.all_eq_true, List.mem_range] at h; have h2 := h.2 j hj; simp only [hbit, if_true] at h2; obtain ⟨e, he, hx⟩ := Array.any_eq_true'.1 h2; simp only [Bool.and_eq_true, Bool.or_eq_true, beq_iff_eq, decide_eq_true_eq] at hx; obtain ⟨hb, hx⟩ := hx; rcases hx with hx | ⟨hje, hx⟩
    · rw [← hx]; exact ha e he hb
    · have hon := hed e he hb; have hs : e.on < ops.size := by omega
      have ho' : ops[e.on]? = some ops[e.on] := by simp [hs]
      exact ih e.on (by omega) _ ho' (hl _ _ ho' (ha e he hb)) j hje hx
theorem wpF_any {ro : Option Nat} {Q : Exit → Act → World → Prop} (hc : chkF ops kd = true) (hS : ∀ c b, S c b → b < N0) (hQ : ∀ a w, F a w → Q .normal a w) :
    ∀ (fuel : Nat) (listed : Array Bool) (K : Nat → Prop) (a : Act) (w : World), Inv N0 K w → listed.size = ops.size → (rem ops listed).length ≤ fuel →
      (∀ i o, ops[i]? = some o → listed.getD i false = true → ∀ e ∈ o.after, Region.binds .any e = true → listed.getD e.on false = true) →
      wpF P ops N0 S kd F (rem ops listed) K a w → wpAnyIn (FR ro) 0 P .any ops Q fuel listed a w := by
  simp only [chkF, Bool.and_eq_true, List.all_eq_true, List.mem_range] at hc; obtain ⟨hs, hc⟩ := hc; have hready : ∀ listed : Array Bool, Region.ready .any ops listed = [] → rem ops listed = [] := by
    intro listed hr
    cases hre : rem ops listed with
    | nil => rfl
    | cons i rest =>
      exfalso
      have hi : i ∈ rem ops listed := by rw [hre]; exact List.mem_cons_self
      obtain ⟨h1, h2⟩ := mem_rem.1 hi; have ho : ops[i]? = some ops[i] := by simp [h1]
      have hmem : i ∈ Region.ready .any ops listed := by
        refine mem_ready.2 ⟨h2, _, ho, fun e he hb => ?_⟩; have hlt := chkF_edge ho (hc i h1) he hb
        cases hl : listed.getD e.on false with
        | true => rfl
        | false =>
          exfalso
          have hin : e.on ∈ rem ops listed := mem_rem.2 ⟨by omega, by
            rcases Nat.lt_or_ge e.on listed.size with h' | h'
            · simp [h'] at hl ⊢; exact hl
            · exfalso
              have h2' := h2; rw [Array.getD_eq_getD_getElem?, Array.getElem?_eq_none (by omega)] at h2'
              simp at h2'⟩
          have hp : (rem ops listed).Pairwise (· < ·) := (List.pairwise_lt_range).filter _; rw [hre] at hin hp; rw [List.pairwise_cons] at hp
          cases hin with
          | head => omega
          | tail _ h => have := hp.1 _ h; omega
      rw [hr] at hmem; cases hmem
  intro fuel
  induction fuel with
  | zero =>
    intro listed K a w _ _ hlen _ h; have hre : rem ops listed = [] := List.eq_nil_of_length_eq_zero (by omega); rw [hre] at h; refine ⟨?_, hQ a w h⟩
    cases hr : Region.ready .any ops listed with
    | nil => rfl
    | cons i rest =>
      exfalso
      have hi : i ∈ Region.ready .any ops listed := by rw [hr]; exact List.mem_cons_self
      obtain ⟨h1, o, ho, _⟩ := mem_ready.1 hi; have : i ∈ rem ops listed := mem_rem.2 ⟨(Array.getElem?_eq_some_iff.1 ho).1, h1⟩; rw [hre] at this; cases this
  | succ fuel ih =>
    intro listed K a w hI hsz hlen hcl h; refine ⟨fun hr => ?_, fun i hi => ?_⟩
    · rw [hready listed hr] at h; exact hQ a w h
    · obtain ⟨h1, o, ho, hall⟩ := mem_ready.1 hi; have hin : i < ops.size := (Array.getElem?_eq_some_iff.1 ho).1; obtain ⟨pre, post, e1, e2, e3, l1, l2, e4, e5⟩ := filter_split (fun i => !listed.getD i true) (List.range ops.size) i List.nodup_range (List.mem_range.2 hin) (by simp only [h1, Bool.not_false]); have hrem : rem ops listed = pre ++ i :: post := e1; have hrem' : rem ops (listed.setIfInBounds i true) = pre ++ post := by
        refine e2 _ (fun y _ hne => ?_) ?_
        · rw [getD_set_ne true (Ne.symm hne)]
        · simp [hsz, hin]
      rw [hrem] at h; have hf := wpF_front hs hS ho pre post (fun j hj p hp => by
        have hjl : j < i := by
          rw [e5] at hj; exact range_split_lt e4 j (List.mem_filter.1 hj).1
        have hjun : listed.getD j true = false := by
          have : j ∈ rem ops listed := by rw [hrem]; exact List.mem_append_left _ hj
          exact (mem_rem.1 this).2
        have hk := hc i hin; by_cases hbit : ((Region.before ops).getD i 0).testBit j = true
        · exfalso
          have := chkF_closed hc hcl i i (Nat.le_refl _) o ho hall j hjl hbit; rcases Nat.lt_or_ge j listed.size with h' | h'
          · simp [h'] at hjun this; rw [hjun] at this; cases this
          · omega
        · simp only [chkAtF, ho, Bool.and_eq_true, List.all_eq_true, List.mem_range] at hk; have hk2 := hk.2 j hjl; simp only [hbit, hp, Bool.false_eq_true, if_false, Bool.and_eq_true] at hk2
          exact hk2) K a w hI h
      have hlen' : (pre ++ post).length ≤ fuel := by rw [hrem] at hlen; simp at hlen ⊢; omega
      have hcl' : ∀ k ok, ops[k]? = some ok → (listed.setIfInBounds i true).getD k false = true → ∀ e ∈ ok.after, Region.binds .any e = true → (listed.setIfInBounds i true).getD e.on false = true := by
        intro k ok hk hlk e he hb; by_cases hki : i = k
        · subst hki; rw [ho] at hk; obtain rfl := Option.some.inj hk; exact getD_set_true (hall e he hb)
        · rw [getD_set_ne false hki] at hlk; exact getD_set_true (hcl k ok hk hlk e he hb)
      have IH : ∀ K a w, Inv N0 K w → wpF P ops N0 S kd F (pre ++ post) K a w → wpAnyIn (FR ro) 0 P .any ops Q fuel (listed.setIfInBounds i true) a w := fun K a w hI hh =>
        ih _ K a w hI (by simp [hsz]) (by rw [hrem']; exact hlen') hcl' (by rw [hrem']; exact hh)
      rw [wpF_cons ho] at hf; unfold wpOpIn; unfold stepF at hf; simp only [ho]; by_cases hw : Region.wanted o (yielded ops a.tmps) = true
      · simp only [hw, if_true] at hf ⊢; refine ⟨fun _ _ => trivial, ?_⟩; by_cases h4 : kd i = 4
        · have e4 := eq_true h4; simp only [e4, if_true] at hf; obtain ⟨obj, vf, hr, hn⟩ := hf; have u0 : Ext w (w.alloc obj) := Upd.push _ _; have hg : (w.alloc obj).heap[w.heap.size]? = some obj := by show (w.heap.push obj)[w.heap.size]? = _; simp
          rw [semAt_value (hr w), hr w]; exact IH _ _ _ (hI.float u0 hg) (hn _ _ u0 hI.size (fun k => Nat.lt_irrefl _ (hI.lt _ k)) hg)
        · simp only [h4, if_false] at hf; by_cases hl : 2 ≤ kd i
          · simp only [hl, if_true] at hf; obtain ⟨R, hR, hn⟩ := hf w (Upd.refl _); rw [semAt_loud hR]; exact hR.upon fun v w' r => IH _ _ _ (hI.loud (hn v w' r).1.2.2.2) (hn v w' r).2
          · simp only [hl, if_false] at hf; obtain ⟨v, hv, hn⟩ := hf; have hv0 := hv w (AgreeOn.refl w); rw [semAt_value hv0, hv0]; exact IH _ _ _ hI hn
      · simp only [hw, if_false, Bool.false_eq_true] at hf ⊢; exact ⟨fun _ _ => trivial, IH _ _ _ hI hf⟩
theorem wp_region_float {ro : Option Nat} {Q : Exit → Act → World → Prop} {id : Nat} {a : Act} {w : World} (hm : P.follows .mixedOrders = true) (hc : chkF ops kd = true) (hS : ∀ c b, S c b → b < N0) (hN : N0 ≤ w.heap.size)
    (h : wpF P ops N0 S kd (Q .normal) (List.range ops.size) (fun _ => False) a w.drew) : (Code.region id ops true).wpIn (FR ro) 0 P Q a w := by
  refine wpIn_region_any hm (wpF_any (S := S) (F := Q .normal) hc hS (fun _ _ h => h) ops.size _ (fun _ => False) a _ ⟨hN, fun _ h => h.elim⟩ (by simp) ?_ ?_ ?_)
  · exact Nat.le_trans (List.length_filter_le _ _) (by simp)
  · intro i o ho hl
    exfalso
    have hin : i < ops.size := (Array.getElem?_eq_some_iff.1 ho).1; simp [hin] at hl
  · have e : rem ops (Array.replicate ops.size false) = List.range ops.size := by
      unfold rem; rw [List.filter_eq_self]; intro i hi; simp [List.mem_range.1 hi]
    rw [e]; exact h
end
end Go.Proofs.Ytlplogplicgfiaa
