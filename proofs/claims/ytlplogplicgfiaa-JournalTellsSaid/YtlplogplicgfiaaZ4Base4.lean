import Derived.Test.YtlplogplicgfiaaZ4Base
namespace Go.Proofs.Ytlplogplicgfiaa
open Go Go.RowKit
abbrev allS : Bool → Nat → Prop := fun _ _ => True
theorem E.regionW {md : Mode} {P : Program} {N : Nat} {Q : Exit → Env → World → Prop} {e : Env} {w : World} {id : Nat} {l : List Oper} (S : Bool → Nat → Prop) (B : List Nat) (hm : P.follows .mixedOrders = true) (hd : dstsOk N l.toArray = true)
    (hc : chk l.toArray (fun i => ((l.toArray[i]?).map (kind B)).getD 0) = true)
    (h : ∀ w1, Ext w w1 → w1.heap = w.heap → wpR P l.toArray S true (kind B) (Q .normal) l e w1) : wpE md P N (.region id l.toArray true) Q e w :=
  E.regionD S (kind B) hm hd hc (h _ (Upd.drew _) rfl)
theorem E.regionP {md : Mode} {P : Program} {N : Nat} {Q : Exit → Env → World → Prop} {e : Env} {w : World} {id : Nat} {l : List Oper} (hd : dstsOk N l.toArray = true)
    (h : wpR P l.toArray allS false (kind []) (Q .normal) l e w) : wpE md P N (.region id l.toArray false) Q e w := E.region allS (kind []) hd h
theorem nT {p : Prop} [Decidable p] (h : (!decide p) = true) : ¬ p := by simpa using h
theorem nF {p : Prop} [Decidable p] (h : (!decide p) = false) : p := by simpa using h
theorem dT {p : Prop} [Decidable p] (h : decide p = true) : p := of_decide_eq_true h
theorem dF {p : Prop} [Decidable p] (h : decide p = false) : ¬ p := of_decide_eq_false h
namespace R
variable {P : Program} {ops : Array Oper} {S : Bool → Nat → Prop} {dr : Bool} {B : List Nat} {F : Env → World → Prop} {rest : List Oper} {e : Env} {w : World}
variable {d : Tmp} {od : Option Tmp} {ty : TypeId} {pos : String} {aft : Array Edge}
theorem addN {t t' : TypeId} {x y : Operand} {m n : Nat} (hx : ev e x = .int .i64 m) (hy : ev e y = .int .i64 n) (h2 : m + n ≤ 9223372036854775807)
    (h : wpR P ops S dr (kind B) F rest (upd e d (.int .i64 ((m + n : Nat) : Int))) w) : wpR P ops S dr (kind B) F (⟨some d, .binOp .add t x y t', ty, pos, aft, none⟩ :: rest) e w :=
  add hx hy (by omega) (by omega) (by rw [← Int.natCast_add]; exact h)
theorem subN {t t' : TypeId} {x y : Operand} {m n : Nat} (hx : ev e x = .int .i64 m) (hy : ev e y = .int .i64 n) (h2 : n ≤ m) (hM : m ≤ 9223372036854775807)
    (h : wpR P ops S dr (kind B) F rest (upd e d (.int .i64 ((m - n : Nat) : Int))) w) : wpR P ops S dr (kind B) F (⟨some d, .binOp .sub t x y t', ty, pos, aft, none⟩ :: rest) e w :=
  sub hx hy (by omega) (by omega) (by rw [← Int.ofNat_sub h2]; exact h)
theorem mulN {t t' : TypeId} {x y : Operand} {m n : Nat} (hx : ev e x = .int .i64 m) (hy : ev e y = .int .i64 n) (h2 : m * n ≤ 9223372036854775807)
    (h : wpR P ops S dr (kind B) F rest (upd e d (.int .i64 ((m * n : Nat) : Int))) w) : wpR P ops S dr (kind B) F (⟨some d, .binOp .mul t x y t', ty, pos, aft, none⟩ :: rest) e w :=
  mul hx hy (by rw [← Int.natCast_mul]; omega) (by rw [← Int.natCast_mul]; omega) (by rw [← Int.natCast_mul]; exact h)
theorem remN {t t' : TypeId} {x y : Operand} {m n : Nat} (hx : ev e x = .int .i64 m) (hy : ev e y = .int .i64 n) (h0 : 0 < n)
    (h : wpR P ops S dr (kind B) F rest (upd e d (.int .i64 ((m % n : Nat) : Int))) w) : wpR P ops S dr (kind B) F (⟨some d, .binOp .rem t x y t', ty, pos, aft, none⟩ :: rest) e w :=
  rem hx hy (by omega) (by omega) (by rw [← Int.natCast_emod]; exact h)
theorem quoN {t t' : TypeId} {x y : Operand} {m n : Nat} (hx : ev e x = .int .i64 m) (hy : ev e y = .int .i64 n) (h0 : 0 < n) (hM : m ≤ 9223372036854775807)
    (h : wpR P ops S dr (kind B) F rest (upd e d (.int .i64 ((m / n : Nat) : Int))) w) : wpR P ops S dr (kind B) F (⟨some d, .binOp .quo t x y t', ty, pos, aft, none⟩ :: rest) e w :=
  quo hx hy (by omega) (by omega) (by omega) (by rw [← Int.natCast_ediv]; exact h)
theorem ix {x i : Operand} {t el : TypeId} {k n m by_ : Nat} {g : Bool} {z : Value} {v : Value} {ik : IntKind} {cs : List Value} {w0 : World} (hu : P.underlying t = some (.slice el)) (hk : Ty P el k by_ g z) (hk0 : 0 < k)
    (hr : Row w0 k v n cs) (hx : ev e x = v) (hi : ev e i = .int ik (m : Nat)) (h1 : m < n)
    (h : wpR P ops S dr (kind B) F rest (upd e d (elemPtr v (m * k))) w) : wpR P ops S dr (kind B) F (⟨some d, .indexAddr t x i, ty, pos, aft, none⟩ :: rest) e w :=
  idx hu hk hk0 hr hx hi (by omega) (by omega) (by rw [Int.toNat_natCast]; exact h)
theorem ld {x : Operand} {t : TypeId} {c : Bool} {k by_ n j : Nat} {z : Value} {v u : Value} {cs : List Value} (hk : Ty P t k by_ false z) (hr : Row w 1 v n cs) (hx : ev e x = elemPtr v (j * 1)) (hj : cs[j]? = some u) (hc : B.contains d = c) (hS : ∀ b, vblk v = some b → S c b)
    (h : wpR P ops S dr (kind B) F rest (upd e d u) w) : wpR P ops S dr (kind B) F (⟨some d, .load t x, ty, pos, aft, none⟩ :: rest) e w :=
  load hk hr hx (by rw [Nat.mul_one]; exact hj) hc hS h
end R
namespace R
variable {P : Program} {ops : Array Oper} {S : Bool → Nat → Prop} {dr : Bool} {B : List Nat} {F : Env → World → Prop} {rest : List Oper} {e : Env} {w : World}
variable {d : Tmp} {od : Option Tmp} {ty : TypeId} {pos : String} {aft : Array Edge}
theorem callE0 {f : FuncId} {ats : Array TypeId} {Φ : Value → World → Prop} (hent : Entered P f) (hc : Calls P f #[] w (Ret fun v w' => Ext w w' ∧ Φ v w')) 
    (hag : dr = true → ∀ b, S false b → b < w.heap.size) (h : ∀ v w', Ext w w' → Φ v w' → wpR P ops S dr (kind B) F rest (updo e od v) w') :
    wpR P ops S dr (kind B) F (⟨od, .call { callee := .value (.func f), args := #[], argTypes := ats }, ty, pos, aft, none⟩ :: rest) e w :=
  callE hent (by simp) hc hag h
theorem callE1 {f : FuncId} {ats : Array TypeId} {x1 : Operand} {v1 : Value} {Φ : Value → World → Prop} (hent : Entered P f) (hc : Calls P f #[v1] w (Ret fun v w' => Ext w w' ∧ Φ v w')) (h1 : ev e x1 = v1)
    (hag : dr = true → ∀ b, S false b → b < w.heap.size) (h : ∀ v w', Ext w w' → Φ v w' → wpR P ops S dr (kind B) F rest (updo e od v) w') :
    wpR P ops S dr (kind B) F (⟨od, .call { callee := .value (.func f), args := #[x1], argTypes := ats }, ty, pos, aft, none⟩ :: rest) e w :=
  callE hent (by simp [h1]) hc hag h
theorem call1 {f : FuncId} {ats : Array TypeId} {x1 : Operand} {v1 : Value} {Φ : Value → World → Prop} (hent : Entered P f) (hc : Calls P f #[v1] w (Ret Φ)) (h1 : ev e x1 = v1)
    (h : ∀ v w', Φ v w' → (dr = true → AgreeOn (S false) w w') ∧ wpR P ops S dr (kind B) F rest (updo e od v) w') :
    wpR P ops S dr (kind B) F (⟨od, .call { callee := .value (.func f), args := #[x1], argTypes := ats }, ty, pos, aft, none⟩ :: rest) e w :=
  call hent (by simp [h1]) hc h
theorem callE2 {f : FuncId} {ats : Array TypeId} {x1 x2 : Operand} {v1 v2 : Value} {Φ : Value → World → Prop} (hent : Entered P f) (hc : Calls P f #[v1, v2] w (Ret fun v w' => Ext w w' ∧ Φ v w')) (h1 : ev e x1 = v1) (h2 : ev e x2 = v2)
    (hag : dr = true → ∀ b, S false b → b < w.heap.size) (h : ∀ v w', Ext w w' → Φ v w' → wpR P ops S dr (kind B) F rest (updo e od v) w') :
    wpR P ops S dr (kind B) F (⟨od, .call { callee := .value (.func f), args := #[x1, x2], argTypes := ats }, ty, pos, aft, none⟩ :: rest) e w :=
  callE hent (by simp [h1, h2]) hc hag h
theorem call2 {f : FuncId} {ats : Array TypeId} {x1 x2 : Operand} {v1 v2 : Value} {Φ : Value → World → Prop} (hent : Entered P f) (hc : Calls P f #[v1, v2] w (Ret Φ)) (h1 : ev e x1 = v1) (h2 : ev e x2 = v2)
    (h : ∀ v w', Φ v w' → (dr = true → AgreeOn (S false) w w') ∧ wpR P ops S dr (kind B) F rest (updo e od v) w') :
    wpR P ops S dr (kind B) F (⟨od, .call { callee := .value (.func f), args := #[x1, x2], argTypes := ats }, ty, pos, aft, none⟩ :: rest) e w :=
  call hent (by simp [h1, h2]) hc h
theorem callE3 {f : FuncId} {ats : Array TypeId} {x1 x2 x3 : Operand} {v1 v2 v3 : Value} {Φ : Value → World → Prop} (hent : Entered P f) (hc : Calls P f #[v1, v2, v3] w (Ret fun v w' => Ext w w' ∧ Φ v w')) (h1 : ev e x1 = v1) (h2 : ev e x2 = v2) (h3 : ev e x3 = v3)
    (hag : dr = true → ∀ b, S false b → b < w.heap.size) (h : ∀ v w', Ext w w' → Φ v w' → wpR P ops S dr (kind B) F rest (updo e od v) w') :
    wpR P ops S dr (kind B) F (⟨od, .call { callee := .value (.func f), args := #[x1, x2, x3], argTypes := ats }, ty, pos, aft, none⟩ :: rest) e w :=
  callE hent (by simp [h1, h2, h3]) hc hag h
theorem call3 {f : FuncId} {ats : Array TypeId} {x1 x2 x3 : Operand} {v1 v2 v3 : Value} {Φ : Value → World → Prop} (hent : Entered P f) (hc : Calls P f #[v1, v2, v3] w (Ret Φ)) (h1 : ev e x1 = v1) (h2 : ev e x2 = v2) (h3 : ev e x3 = v3)
    (h : ∀ v w', Φ v w' → (dr = true → AgreeOn (S false) w w') ∧ wpR P ops S dr (kind B) F rest (updo e od v) w') :
    wpR P ops S dr (kind B) F (⟨od, .call { callee := .value (.func f), args := #[x1, x2, x3], argTypes := ats }, ty, pos, aft, none⟩ :: rest) e w :=
  call hent (by simp [h1, h2, h3]) hc h
theorem callE4 {f : FuncId} {ats : Array TypeId} {x1 x2 x3 x4 : Operand} {v1 v2 v3 v4 : Value} {Φ : Value → World → Prop} (hent : Entered P f) (hc : Calls P f #[v1, v2, v3, v4] w (Ret fun v w' => Ext w w' ∧ Φ v w')) (h1 : ev e x1 = v1) (h2 : ev e x2 = v2) (h3 : ev e x3 = v3) (h4 : ev e x4 = v4)
    (hag : dr = true → ∀ b, S false b → b < w.heap.size) (h : ∀ v w', Ext w w' → Φ v w' → wpR P ops S dr (kind B) F rest (updo e od v) w') :
    wpR P ops S dr (kind B) F (⟨od, .call { callee := .value (.func f), args := #[x1, x2, x3, x4], argTypes := ats }, ty, pos, aft, none⟩ :: rest) e w :=
  callE hent (by simp [h1, h2, h3, h4]) hc hag h
end R
theorem R.stE {P : Program} {ops : Array Oper} {S : Bool → Nat → Prop} {dr : Bool} {B : List Nat} {F : Env → World → Prop} {rest : List Oper} {e : Env} {w : World} {od : Option Tmp} {ty : TypeId} {pos : String} {aft : Array Edge} {x y : Operand} {t tb : TypeId} {by_ n j : Nat} {z v u : Value} {cs : List Value}
    (hk : Ty P t 1 by_ false z) (hs : Sl w tb 1 v n cs) (hx : ev e x = elemPtr v (j * 1)) (hy : ev e y = u) (h1 : u.oneCell' = true) (hj : j < n) (hag : dr = true → ∀ b, vblk v = some b → ¬ S false b)
    (h : ∀ w', Upd (fun b => vblk v = some b) w w' → w'.heap.size = w.heap.size → Sl w' tb 1 v n (cs.set j u) → wpR P ops S dr (kind B) F rest (updo e od undef) w') : wpR P ops S dr (kind B) F (⟨od, .store t x y, ty, pos, aft, none⟩ :: rest) e w := by
  obtain ⟨a, c, rfl, hc, hl, hq⟩ := hs; rcases hq with ⟨_, rfl⟩ | ⟨b, off, cur, rfl, hb, ho, hq⟩
  · omega
  · simp only [elemPtr, add_none, Nat.mul_one] at hx; refine R.store hk hb hx hy h1 (by omega) (fun hd => hag hd b rfl) (fun w' hU hs hB => h w' (hU.mono (fun x _ hx => by simp [vblk]; exact hx.symm)) hs ⟨_, _, rfl, hc, by simpa using hl, .inr ⟨b, off, _, rfl, hB, by simpa using ho, fun i hi => ?_⟩⟩); simp only [List.length_set] at hi; rw [Array.getElem?_setIfInBounds, List.getElem?_set]; by_cases hij : j = i
    · subst hij; have h2 : off + j < cur.size := by omega
      simp [h2, hi]
    · have : ¬ off + j = off + i := by omega
      simp only [this, hij, if_false]; exact hq i hi
theorem Upd.own {X : Nat → Prop} {w0 w w' : World} {b : Nat} (h : Upd X w0 w) (u : Upd (one b) w w') (hb : w0.heap.size ≤ b) : Upd X w0 w' := h.trans u fun c hc hx => by
  have : c = b := hx; omega
structure Mat (w : World) (v : Value) (us : List Value) (xss : List (List Int)) : Prop where
  row : Row w 1 v xss.length us
  get : ∀ i (h : i < xss.length), ∃ u, us[i]? = some u ∧ Ints w u xss[i]
theorem Mat.ext {w w' : World} {v : Value} {us : List Value} {xss : List (List Int)} (h : Mat w v us xss) (u : Ext w w') : Mat w' v us xss :=
  ⟨h.row.ext u, fun i hi => let ⟨x, a, b⟩ := h.get i hi; ⟨x, a, b.ext u⟩⟩
theorem Mat.len {w : World} {v : Value} {us : List Value} {xss : List (List Int)} (h : Mat w v us xss) : us.length = xss.length := by have := h.row.len; omega
theorem Mat.one {w : World} {v : Value} {us : List Value} {xss : List (List Int)} (h : Mat w v us xss) : ∀ u ∈ us, u.oneCell' = true := by
  intro u hu; obtain ⟨i, hi, rfl⟩ := List.mem_iff_getElem.1 hu; obtain ⟨x, a, b⟩ := h.get i (by rw [← h.len]; exact hi); rw [List.getElem?_eq_getElem hi] at a; obtain rfl := Option.some.inj a; exact b.one
end Go.Proofs.Ytlplogplicgfiaa

namespace Go.Proofs.Ytlplogplicgfiaa
open Go Go.RowKit
namespace R
variable {P : Program} {ops : Array Oper} {S : Bool → Nat → Prop} {dr : Bool} {B : List Nat} {F : Env → World → Prop} {rest : List Oper} {e : Env} {w : World}
variable {d : Tmp} {od : Option Tmp} {ty : TypeId} {pos : String} {aft : Array Edge}
end R
theorem E.forget {md : Mode} {P : Program} {N : Nat} {Q : Exit → Env → World → Prop} {e : Env} {w : World} {c : Code} (l : List (Nat × Value)) (h : Has e l) (k : ∀ e, wpE md P N c Q (mk e l) w) : wpE md P N c Q e w := by
  rw [h.mk]; exact k e
end Go.Proofs.Ytlplogplicgfiaa
