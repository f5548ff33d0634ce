import Derived.Test.YtfdmndkoiheebaaZ16Base2
import Derived.Test.YtfdmndkoiheebaaRows
import Derived.WalkKit
import Derived.ProofKit
import Derived.OpenShut
import Derived.ChangeSame
import Derived.JoinedOf
import Derived.JoinedAt
import Derived.RowKit3
import Derived.Lib.SmallJoins
import Derived.Deep.Matrix
import Derived.Deep.OwnRows
import Derived.WideKeyArgs
namespace Go.Proofs.Ytfdmndkoiheebaa
open Go Go.RowKit
abbrev allS : Bool → Nat → Prop := fun _ _ => True
theorem E.regionW {md : Mode} {P : Program} {N : Nat} {Q : Exit → Env → World → Prop} {e : Env} {w : World} {id : Nat} {l : List Oper} (S : Bool → Nat → Prop) (B : List Nat) (hm : P.follows .mixedOrders = true) (hd : dstsOk N l.toArray = true)
    (hc : chk l.toArray (fun i => ((l.toArray[i]?).map (kind B)).getD 0) = true)
    (h : ∀ w1, Ext w w1 → w1.heap = w.heap → wpR P l.toArray S true (kind B) (Q .normal) l e w1) : wpE md P N (.region id l.toArray true) Q e w :=
  E.regionD S (kind B) hm hd hc (h _ (Upd.drew _) rfl)
theorem E.regionP {md : Mode} {P : Program} {N : Nat} {Q : Exit → Env → World → Prop} {e : Env} {w : World} {id : Nat} {l : List Oper} (hd : dstsOk N l.toArray = true)
    (h : wpR P l.toArray allS false (kind []) (Q .normal) l e w) : wpE md P N (.region id l.toArray false) Q e w := E.region allS (kind []) hd h
theorem nT {p : Prop} [Decidable p] (h : (!decide p) = true) : ¬ p := by simpa using h
theorem nF {p : Prop} [Decidable p] (h : (!decide p) = false) : p := by simpa using h
theorem dT {p : Prop} [Decidable p] (h : decide p = true) : p := of_decide_eq_true h
theorem dF {p : Prop} [Decidable p] (h : decide p = false) : ¬ p := of_decide_eq_false h
namespace R
variable {P : Program} {ops : Array Oper} {S : Bool → Nat → Prop} {dr : Bool} {B : List Nat} {F : Env → World → Prop} {rest : List Oper} {e : Env} {w : World}
variable {d : Tmp} {od : Option Tmp} {ty : TypeId} {pos : String} {aft : Array Edge}
theorem addN {t t' : TypeId} {x y : Operand} {m n : Nat} (hx : ev e x = .int .i64 m) (hy : ev e y = .int .i64 n) (h2 : m + n ≤ 9223372036854775807)
    (h : wpR P ops S dr (kind B) F rest (upd e d (.int .i64 ((m + n : Nat) : Int))) w) : wpR P ops S dr (kind B) F (⟨some d, .binOp .add t x y t', ty, pos, aft, none⟩ :: rest) e w :=
  add hx hy (by omega) (by omega) (by rw [← Int.natCast_add]; exact h)
theorem subN {t t' : TypeId} {x y : Operand} {m n : Nat} (hx : ev e x = .int .i64 m) (hy : ev e y = .int .i64 n) (h2 : n ≤ m) (hM : m ≤ 9223372036854775807)
    (h : wpR P ops S dr (kind B) F rest (upd e d (.int .i64 ((m - n : Nat) : Int))) w) : wpR P ops S dr (kind B) F (⟨some d, .binOp .sub t x y t', ty, pos, aft, none⟩ :: rest) e w :=
  sub hx hy (by omega) (by omega) (by rw [← Int.ofNat_sub h2]; exact h)
theorem mulN {t t' : TypeId} {x y : Operand} {m n : Nat} (hx : ev e x = .int .i64 m) (hy : ev e y = .int .i64 n) (h2 : m * n ≤ 9223372036854775807)
    (h : wpR P ops S dr (kind B) F rest (upd e d (.int .i64 ((m * n : Nat) : Int))) w) : wpR P ops S dr (kind B) F (⟨some d, .binOp .mul t x y t', ty, pos, aft, none⟩ :: rest) e w :=
  mul hx hy (by rw [← Int.natCast_mul]; omega) (by rw [← Int.natCast_mul]; omega) (by rw [← Int.natCast_mul]; exact h)
theorem remN {t t' : TypeId} {x y : Operand} {m n : Nat} (hx : ev e x = .int .i64 m) (hy : ev e y = .int .i64 n) (h0 : 0 < n)
    (h : wpR P ops S dr (kind B) F rest (upd e d (.int .i64 ((m % n : Nat) : Int))) w) : wpR P ops S dr (kind B) F (⟨some d, .binOp .rem t x y t', ty, pos, aft, none⟩ :: rest) e w :=
  rem hx hy (by omega) (by omega) (by rw [← Int.natCast_emod]; exact h)
theorem quoN {t t' : TypeId} {x y : Operand} {m n : Nat} (hx : ev e x = .int .i64 m) (hy : ev e y = .int .i64 n) (h0 : 0 < n) (hM : m ≤ 9223372036854775807)
    (h : wpR P ops S dr (kind B) F rest (upd e d (.int .i64 ((m / n : Nat) : Int))) w) : wpR P ops S dr (kind B) F (⟨some d, .binOp .quo t x y t', ty, pos, aft, none⟩ :: rest) e w :=
  quo hx hy (by omega) (by omega) (by omega) (by rw [← Int.natCast_ediv]; exact h)
theorem ix {x i : Operand} {t el : TypeId} {k n m by_ : Nat} {g : Bool} {z : Value} {v : Value} {ik : IntKind} {cs : List Value} {w0 : World} (hu : P.underlying t = some (.slice el)) (hk : Ty P el k by_ g z) (hk0 : 0 < k)
    (hr : Row w0 k v n cs) (hx : ev e x = v) (hi : ev e i = .int ik (m : Nat)) (h1 : m < n)
    (h : wpR P ops S dr (kind B) F rest (upd e d (elemPtr v (m * k))) w) : wpR P ops S dr (kind B) F (⟨some d, .indexAddr t x i, ty, pos, aft, none⟩ :: rest) e w :=
  idx hu hk hk0 hr hx hi (by omega) (by omega) (by rw [Int.toNat_natCast]; exact h)
theorem ld {x : Operand} {t : TypeId} {c : Bool} {k by_ n j : Nat} {z : Value} {v u : Value} {cs : List Value} (hk : Ty P t k by_ false z) (hr : Row w 1 v n cs) (hx : ev e x = elemPtr v (j * 1)) (hj : cs[j]? = some u) (hc : B.contains d = c) (hS : ∀ b, vblk v = some b → S c b)
    (h : wpR P ops S dr (kind B) F rest (upd e d u) w) : wpR P ops S dr (kind B) F (⟨some d, .load t x, ty, pos, aft, none⟩ :: rest) e w :=
  load hk hr hx (by rw [Nat.mul_one]; exact hj) hc hS h
theorem ldE {x : Operand} {t : TypeId} {c : Bool} {k by_ n j : Nat} {z : Value} {v u : Value} {cs : List Value} {w0 : World} (hk : Ty P t k by_ false z) (hr : Row w0 1 v n cs) (hE : Ext w0 w) (hx : ev e x = elemPtr v (j * 1)) (hj : cs[j]? = some u) (hc : B.contains d = c) (hS : ∀ b, b < w0.heap.size → S c b)
    (h : wpR P ops S dr (kind B) F rest (upd e d u) w) : wpR P ops S dr (kind B) F (⟨some d, .load t x, ty, pos, aft, none⟩ :: rest) e w := by
  refine ld hk (hr.ext hE) hx hj hc (fun b hb => hS b ?_) h
  obtain ⟨a, cap, rfl, _, _, hjj⟩ := hr
  obtain ⟨p, rfl, hp⟩ := hjj j (List.getElem?_eq_some_iff.1 hj).1
  have := cell_lt (hp.trans hj)
  rw [add_block] at this
  simp only [vblk, Option.some.injEq] at hb
  omega
theorem loadBE {x : Operand} {t : TypeId} {c : Bool} {k by_ b i : Nat} {z : Value} {u : Value} {tb : TypeId} {cs : Array Value} {w0 : World} (hk : Ty P t k by_ false z) (hb : Blk w0 b tb cs) (hE : Ext w0 w) (hx : ev e x = .pointer (some ⟨b, i, none⟩)) (hi : cs[i]? = some u) (hc : B.contains d = c) (hS : ∀ b, b < w0.heap.size → S c b)
    (h : wpR P ops S dr (kind B) F rest (upd e d u) w) : wpR P ops S dr (kind B) F (⟨some d, .load t x, ty, pos, aft, none⟩ :: rest) e w :=
  loadB hk (hb.ext hE) hx hi hc (hS b hb.lt) h
theorem loadAE {x : Operand} {t : TypeId} {c : Bool} {k by_ b : Nat} {z : Value} {tb : TypeId} {cs : Array Value} {w0 : World} (hk : Ty P t k by_ true z) (hb : Blk w0 b tb cs) (hE : Ext w0 w) (hx : ev e x = .pointer (some ⟨b, 0, none⟩)) (hi : cs.size = k) (hc : B.contains d = c) (hS : ∀ b, b < w0.heap.size → S c b)
    (h : wpR P ops S dr (kind B) F rest (upd e d (.agg cs)) w) : wpR P ops S dr (kind B) F (⟨some d, .load t x, ty, pos, aft, none⟩ :: rest) e w :=
  loadA hk (hb.ext hE) hx hi hc (hS b hb.lt) h
end R
namespace R
variable {P : Program} {ops : Array Oper} {S : Bool → Nat → Prop} {dr : Bool} {B : List Nat} {F : Env → World → Prop} {rest : List Oper} {e : Env} {w : World}
variable {d : Tmp} {od : Option Tmp} {ty : TypeId} {pos : String} {aft : Array Edge}
theorem callE0 {f : FuncId} {ats : Array TypeId} {Φ : Value → World → Prop} (hent : Entered P f) (hc : Calls P f #[] w (Ret fun v w' => Ext w w' ∧ Φ v w')) 
    (hag : dr = true → ∀ b, S false b → b < w.heap.size) (h : ∀ v w', Ext w w' → Φ v w' → wpR P ops S dr (kind B) F rest (updo e od v) w') :
    wpR P ops S dr (kind B) F (⟨od, .call { callee := .value (.func f), args := #[], argTypes := ats }, ty, pos, aft, none⟩ :: rest) e w :=
  callE hent (by simp) hc hag h
theorem callE1 {f : FuncId} {ats : Array TypeId} {x1 : Operand} {v1 : Value} {Φ : Value → World → Prop} (hent : Entered P f) (hc : Calls P f #[v1] w (Ret fun v w' => Ext w w' ∧ Φ v w')) (h1 : ev e x1 = v1)
    (hag : dr = true → ∀ b, S false b → b < w.heap.size) (h : ∀ v w', Ext w w' → Φ v w' → wpR P ops S dr (kind B) F rest (updo e od v) w') :
    wpR P ops S dr (kind B) F (⟨od, .call { callee := .value (.func f), args := #[x1], argTypes := ats }, ty, pos, aft, none⟩ :: rest) e w :=
  callE hent (by simp [h1]) hc hag h
theorem call1 {f : FuncId} {ats : Array TypeId} {x1 : Operand} {v1 : Value} {Φ : Value → World → Prop} (hent : Entered P f) (hc : Calls P f #[v1] w (Ret Φ)) (h1 : ev e x1 = v1)
    (h : ∀ v w', Φ v w' → (dr = true → AgreeOn (S false) w w') ∧ wpR P ops S dr (kind B) F rest (updo e od v) w') :
    wpR P ops S dr (kind B) F (⟨od, .call { callee := .value (.func f), args := #[x1], argTypes := ats }, ty, pos, aft, none⟩ :: rest) e w :=
  call hent (by simp [h1]) hc h
theorem callE2 {f : FuncId} {ats : Array TypeId} {x1 x2 : Operand} {v1 v2 : Value} {Φ : Value → World → Prop} (hent : Entered P f) (hc : Calls P f #[v1, v2] w (Ret fun v w' => Ext w w' ∧ Φ v w')) (h1 : ev e x1 = v1) (h2 : ev e x2 = v2)
    (hag : dr = true → ∀ b, S false b → b < w.heap.size) (h : ∀ v w', Ext w w' → Φ v w' → wpR P ops S dr (kind B) F rest (updo e od v) w') :
    wpR P ops S dr (kind B) F (⟨od, .call { callee := .value (.func f), args := #[x1, x2], argTypes := ats }, ty, pos, aft, none⟩ :: rest) e w :=
  callE hent (by simp [h1, h2]) hc hag h
theorem call2 {f : FuncId} {ats : Array TypeId} {x1 x2 : Operand} {v1 v2 : Value} {Φ : Value → World → Prop} (hent : Entered P f) (hc : Calls P f #[v1, v2] w (Ret Φ)) (h1 : ev e x1 = v1) (h2 : ev e x2 = v2)
    (h : ∀ v w', Φ v w' → (dr = true → AgreeOn (S false) w w') ∧ wpR P ops S dr (kind B) F rest (updo e od v) w') :
    wpR P ops S dr (kind B) F (⟨od, .call { callee := .value (.func f), args := #[x1, x2], argTypes := ats }, ty, pos, aft, none⟩ :: rest) e w :=
  call hent (by simp [h1, h2]) hc h
theorem callE3 {f : FuncId} {ats : Array TypeId} {x1 x2 x3 : Operand} {v1 v2 v3 : Value} {Φ : Value → World → Prop} (hent : Entered P f) (hc : Calls P f #[v1, v2, v3] w (Ret fun v w' => Ext w w' ∧ Φ v w')) (h1 : ev e x1 = v1) (h2 : ev e x2 = v2) (h3 : ev e x3 = v3)
    (hag : dr = true → ∀ b, S false b → b < w.heap.size) (h : ∀ v w', Ext w w' → Φ v w' → wpR P ops S dr (kind B) F rest (updo e od v) w') :
    wpR P ops S dr (kind B) F (⟨od, .call { callee := .value (.func f), args := #[x1, x2, x3], argTypes := ats }, ty, pos, aft, none⟩ :: rest) e w :=
  callE hent (by simp [h1, h2, h3]) hc hag h
theorem callE4 {f : FuncId} {ats : Array TypeId} {x1 x2 x3 x4 : Operand} {v1 v2 v3 v4 : Value} {Φ : Value → World → Prop} (hent : Entered P f) (hc : Calls P f #[v1, v2, v3, v4] w (Ret fun v w' => Ext w w' ∧ Φ v w')) (h1 : ev e x1 = v1) (h2 : ev e x2 = v2) (h3 : ev e x3 = v3) (h4 : ev e x4 = v4)
    (hag : dr = true → ∀ b, S false b → b < w.heap.size) (h : ∀ v w', Ext w w' → Φ v w' → wpR P ops S dr (kind B) F rest (updo e od v) w') :
    wpR P ops S dr (kind B) F (⟨od, .call { callee := .value (.func f), args := #[x1, x2, x3, x4], argTypes := ats }, ty, pos, aft, none⟩ :: rest) e w :=
  callE hent (by simp [h1, h2, h3, h4]) hc hag h
end R
theorem R.appendIn {P : Program} {ops : Array Oper} {S : Bool → Nat → Prop} {dr : Bool} {B : List Nat} {F : Env → World → Prop} {rest : List Oper} {e : Env} {w : World} {d : Tmp} {ty : TypeId} {pos : String} {aft : Array Edge} {x y : Operand} {t tx el el' tb : TypeId} {k by_ : Nat} {g : Bool} {z : Value}
    (hu : P.underlying t = some (.slice el)) (hux : P.underlying tx = some (.slice el')) (hk : Ty P el k by_ g z) (hk0 : 0 < k) {b off n c m : Nat} {cur : Array Value} {u : Value} {news : List Value} (hB : Blk w b tb cur) (hr : Row w k u m news) (h1 : ∀ x ∈ news, x.oneCell' = true)
    (hx : ev e x = .slice (some ⟨b, off, none⟩) n c) (hy : ev e y = u) (hroom : n + m ≤ c) (hfit : off + c * k ≤ cur.size) (hag : dr = true → ¬ S false b)
    (h : ∀ w', Upd (one b) w w' → Blk w' b tb (put cur (off + n * k) news) → (∀ c, c ≠ b → w'.heap[c]? = w.heap[c]?) → wpR P ops S dr (kind B) F rest (upd e d (.slice (some ⟨b, off, none⟩) (n + m) c)) w') :
    wpR P ops S dr (kind B) F (⟨some d, .call { callee := .builtin .append, args := #[x, y], argTypes := #[t, tx] }, ty, pos, aft, none⟩ :: rest) e w := by
  have src := hr.src hk0 hux h1 (P := P)
  have hlr := hr.len
  obtain ⟨i, hi, hz0, hz1, hz2⟩ := info_parts hk.info
  subst hz1
  have hcm : n * i.size + m * i.size ≤ c * i.size := by rw [← Nat.add_mul]; exact Nat.mul_le_mul_right _ hroom
  have hfit2 : off + n * i.size + news.length ≤ cur.size := by rw [hlr]; omega
  have hrun := run_append_room_src (P := P) w t tx ty el i hu hi b off n c u m news src hroom (fun j hj => by rw [hB.cell]; simp; omega) (fun j _ => hB.frozen _)
  refine R.run3 (w' := w.setCells b (off + n * i.size) news) (v := .slice (some ⟨b, off, none⟩) (n + m) c) rfl ?_ (fun hd x hx => setCells_other news (fun e => hag hd (e ▸ hx))) (h _ (Upd.setCells news) (hB.setCells news hfit2) (fun c hc => setCells_other news hc))
  simp [execOp, resolve, invoke, builtin, hx, hy, hrun]
theorem R.stE {P : Program} {ops : Array Oper} {S : Bool → Nat → Prop} {dr : Bool} {B : List Nat} {F : Env → World → Prop} {rest : List Oper} {e : Env} {w : World} {od : Option Tmp} {ty : TypeId} {pos : String} {aft : Array Edge} {x y : Operand} {t tb : TypeId} {by_ n j : Nat} {z v u : Value} {cs : List Value}
    (hk : Ty P t 1 by_ false z) (hs : Sl w tb 1 v n cs) (hx : ev e x = elemPtr v (j * 1)) (hy : ev e y = u) (h1 : u.oneCell' = true) (hj : j < n) (hag : dr = true → ∀ b, vblk v = some b → ¬ S false b)
    (h : ∀ w', Upd (fun b => vblk v = some b) w w' → w'.heap.size = w.heap.size → Sl w' tb 1 v n (cs.set j u) → wpR P ops S dr (kind B) F rest (updo e od undef) w') : wpR P ops S dr (kind B) F (⟨od, .store t x y, ty, pos, aft, none⟩ :: rest) e w := by
  obtain ⟨a, c, rfl, hc, hl, hq⟩ := hs
  rcases hq with ⟨_, rfl⟩ | ⟨b, off, cur, rfl, hb, ho, hq⟩
  · omega
  · simp only [elemPtr, add_none, Nat.mul_one] at hx
    refine R.store hk hb hx hy h1 (by omega) (fun hd => hag hd b rfl) (fun w' hU hs hB => h w' (hU.mono (fun x _ hx => by simp [vblk]; exact hx.symm)) hs ⟨_, _, rfl, hc, by simpa using hl, .inr ⟨b, off, _, rfl, hB, by simpa using ho, fun i hi => ?_⟩⟩)
    simp only [List.length_set] at hi
    rw [Array.getElem?_setIfInBounds, List.getElem?_set]
    by_cases hij : j = i
    · subst hij
      have h2 : off + j < cur.size := by omega
      simp [h2, hi]
    · have : ¬ off + j = off + i := by omega
      simp only [this, hij, if_false]
      exact hq i hi
theorem Upd.own {X : Nat → Prop} {w0 w w' : World} {b : Nat} (h : Upd X w0 w) (u : Upd (one b) w w') (hb : w0.heap.size ≤ b) : Upd X w0 w' := h.trans u fun c hc hx => by
  have : c = b := hx
  omega
theorem ones2 {a b : Value} (ha : a.oneCell' = true) (hb : b.oneCell' = true) : ∀ u ∈ #[a, b].toList, u.oneCell' = true := by simpa using ⟨ha, hb⟩
theorem ones3 {a b c : Value} (ha : a.oneCell' = true) (hb : b.oneCell' = true) (hc : c.oneCell' = true) : ∀ u ∈ #[a, b, c].toList, u.oneCell' = true := by simpa using ⟨ha, hb, hc⟩
theorem int_at {xs : List Int} {k : Nat} (h : k < xs.length) : (ints xs)[k]? = some (.int .i64 xs[k]) := by simp [h]
structure Mat (w : World) (v : Value) (us : List Value) (xss : List (List Int)) : Prop where
  row : Row w 1 v xss.length us
  get : ∀ i (h : i < xss.length), ∃ u, us[i]? = some u ∧ Ints w u xss[i]
theorem Mat.ext {w w' : World} {v : Value} {us : List Value} {xss : List (List Int)} (h : Mat w v us xss) (u : Ext w w') : Mat w' v us xss :=
  ⟨h.row.ext u, fun i hi => let ⟨x, a, b⟩ := h.get i hi; ⟨x, a, b.ext u⟩⟩
theorem Mat.len {w : World} {v : Value} {us : List Value} {xss : List (List Int)} (h : Mat w v us xss) : us.length = xss.length := by have := h.row.len; omega
theorem Mat.one {w : World} {v : Value} {us : List Value} {xss : List (List Int)} (h : Mat w v us xss) : ∀ u ∈ us, u.oneCell' = true := by
  intro u hu
  obtain ⟨i, hi, rfl⟩ := List.mem_iff_getElem.1 hu
  obtain ⟨x, a, b⟩ := h.get i (by rw [← h.len]; exact hi)
  rw [List.getElem?_eq_getElem hi] at a
  obtain rfl := Option.some.inj a
  exact b.one
end Go.Proofs.Ytfdmndkoiheebaa

namespace Go.Proofs.Ytfdmndkoiheebaa
open Go Go.RowKit Go.ChangeShapes Go.WideShapes Go.ChangeAt Go.Joins Go.Deep
theorem knob : ownKnob Try.prog.godebug = none := by kernel_rfl
theorem laidOut : laidOutB Try.prog = true := by kernel_rfl
theorem Ext.since {w w' : World} (h : Ext w w') : w.Since w.heap.size w' := ⟨h.os, h.tape, h.output, h.size, fun k hk => h.blk k hk id⟩
section
variable {H : Type} {enc : TypeId × Value → H}
theorem trodAll_stays {W W' : World} {sp' : Nat → Bool} {ts : List TypeId} {vs : List Value} {ds : List (DataW H)} {ps : List MemPlace} (hr : ∀ t ∈ ts, Try.prog.readableRec t = true ∧ t < Try.prog.types.size)
    (h : DataW.TrodAll enc Try.prog W 0 (fun _ => true) true ts vs ds ps) (hsame : ∀ p ∈ ps, W.sameAt W' p) (hs : ∀ p ∈ ps, sp' p.block = true) : DataW.TrodAll enc Try.prog W' 0 sp' true ts vs ds ps := by
  induction ts generalizing vs ds ps with
  | nil => cases vs <;> cases ds <;> simp_all [DataW.TrodAll]
  | cons t ts ih =>
    obtain ⟨v, vs', d, ds', p, q, rfl, rfl, rfl, h1, h2⟩ := trodAll_cons h
    have ht := hr t List.mem_cons_self
    refine ⟨p, q, WideElems.Trod_stays laidOut ht.1 ht.2 h1 (fun x hx => hsame x (List.mem_append_left _ hx)) (fun x hx => hs x (List.mem_append_left _ hx)), ?_, rfl⟩
    exact ih (fun x hx => hr x (List.mem_cons_of_mem _ hx)) h2 (fun x hx => hsame x (List.mem_append_right _ hx)) (fun x hx => hs x (List.mem_append_right _ hx))
theorem law_post {f : Func} {s : ChangeSpec} {W W' : World} {args : Array Value} {ds gs : List (DataW H)} {before : List MemPlace} (hv : s.vars = []) (hW : DataW.Whole enc Try.prog f.params.toList s.vars false W args.toList ds gs before)
    (hfn : s.fn H (ds ++ gs) = { results := [.lit (.bool true)], args := ds }) (hres : f.resultTypes = #[4]) (hr : ∀ t ∈ f.params.toList, Try.prog.readableRec t = true ∧ t < Try.prog.types.size) (hE : Ext W W') :
    s.post enc Try.prog f false true false false W args (.bool true) W' := by
  have hs := hE.since
  have hlt : ∀ x ∈ before, x.block < W.heap.size := fun x hx => hW.lt x hx
  have hW' := hW
  obtain ⟨p, q, hA, hV, rfl, hfz, hnd⟩ := hW
  rw [hv] at hV
  obtain ⟨rfl, rfl⟩ := trodVars_none hV
  refine ⟨ds, [], p ++ [], [], p, [], hW', ?_, ?_, ?_, hs.frame _, nofun⟩
  · rw [hfn, hres]
    exact trodAll_cons_mk (shut_bool Try.underlying4 _) trodAll_mk0
  · rw [hfn]
    exact trodAll_stays hr hA (fun x hx => hs.sameAt (hlt x (by simpa using hx))) (fun x hx => by simpa using hlt x (by simpa using hx))
  · rw [hfn, hv]
    rfl
set_option maxRecDepth 100000 in
set_option maxRecDepth 100000 in
end
end Go.Proofs.Ytfdmndkoiheebaa

namespace Go.Proofs.Ytfdmndkoiheebaa
open Go Go.RowKit
theorem sameInts (w : World) {v1 v2 : Value} {xs ys : List Int} (h1 : Ints w v1 xs) (h2 : Ints w v2 ys) (hl1 : xs.length < 1000000000) (hl2 : ys.length < 1000000000) :
    Calls Try.prog 56 #[v1, v2] w (Ret fun v w' => Ext w w' ∧ v = .bool (decide (xs = ys))) := by
  refine calls_E (args := [v1, v2]) 26 Try.func56 rfl rfl (by simp) ?_
  have hE : Ext w w := Upd.refl w
  refine E.seq ?_
  refine E.regionP rfl ?_
  refine R.assign ?_
  refine R.nil ?_
  refine E.seq ?_
  refine E.seq ?_
  refine E.regionP rfl ?_
  refine R.move ?_
  refine R.len Try.underlying35 h1 rfl ?_
  refine R.move ?_
  refine R.len Try.underlying35 h2 rfl ?_
  refine R.neq rfl rfl rfl ?_
  refine R.nil ?_
  refine E.cond rfl (fun hc10 => ?_) (fun hc10 => ?_)
  · replace hc10 := nT hc10
    refine E.seq ?_
    refine E.regionP rfl ?_
    refine R.assign ?_
    refine R.nil ?_
    refine E.ret ?_
    refine ret1 (.bool false) rfl rfl ⟨_, rfl, hE, ?_⟩
    have : xs ≠ ys := fun h => hc10 (by rw [h])
    simp [this]
  · replace hc10 := nF hc10
    refine E.skip ?_
    refine E.seq ?_
    refine E.seq ?_
    refine E.regionP rfl ?_
    refine R.assign ?_
    refine R.nil ?_
    refine E.block ?_
    refine E.loop (fun n e wr => ∃ k : Nat, n = xs.length - k ∧ k ≤ xs.length ∧ xs.take k = ys.take k ∧ Ext w wr ∧ Has e [(0, v1), (1, v2), (5, .int .i64 k)]) (xs.length) ?_ ?_
    · exact ⟨0, rfl, Nat.zero_le _, rfl, hE, rfl, rfl, rfl, trivial⟩
    · rintro n e wr ⟨k, rfl, hk, htk, hE, hH⟩
      obtain ⟨e, rfl⟩ := hH.ex
      clear hH
      refine E.seq ?_
      refine E.seq ?_
      refine E.regionP rfl ?_
      refine R.move ?_
      refine R.move ?_
      refine R.len Try.underlying35 h1 rfl ?_
      refine R.lss rfl rfl rfl ?_
      refine R.nil ?_
      refine E.cond rfl (fun hc14 => ?_) (fun hc14 => ?_)
      · replace hc14 := dT hc14
        refine E.skip ?_
        refine E.seq ?_
        refine E.block ?_
        refine E.seq ?_
        refine E.regionW allS [] mixed rfl (by kernel_rfl) ?_
        intro w1 hx1 hh1
        replace hE := hE.ext hx1
        refine R.move ?_
        refine R.move ?_
        refine R.ix Try.underlying35 t3 (by decide) h1 rfl rfl (by omega) ?_
        refine R.ld t3 (h1.ext hE) rfl (int_at (by omega)) rfl (fun _ _ => trivial) ?_
        refine R.move ?_
        refine R.move ?_
        refine R.ix Try.underlying35 t3 (by decide) h2 rfl rfl (by omega) ?_
        refine R.ld t3 (h2.ext hE) rfl (int_at (by omega)) rfl (fun _ _ => trivial) ?_
        refine R.neq rfl rfl rfl ?_
        refine R.nil ?_
        refine E.cond rfl (fun hc25 => ?_) (fun hc25 => ?_)
        · replace hc25 := nT hc25
          refine E.seq ?_
          refine E.regionP rfl ?_
          refine R.assign ?_
          refine R.nil ?_
          refine E.ret ?_
          refine ret1 (.bool false) rfl rfl ⟨_, rfl, hE, ?_⟩
          have : xs ≠ ys := fun h => hc25 (by subst h; rfl)
          simp [this]
        · replace hc25 := nF hc25
          refine E.skip ?_
          refine E.regionP rfl ?_
          refine R.move ?_
          refine R.addN (n := 1) rfl rfl (by omega) ?_
          refine R.assign ?_
          refine R.nil ?_
          refine ⟨xs.length - (k + 1), by omega, k + 1, rfl, by omega, ?_, hE, rfl, rfl, rfl, trivial⟩
          rw [List.take_succ_eq_append_getElem (by omega), List.take_succ_eq_append_getElem (by omega), htk, hc25]
      · replace hc14 := dF hc14
        refine E.exit ?_
        refine E.seq ?_
        refine E.regionP rfl ?_
        refine R.assign ?_
        refine R.nil ?_
        refine E.ret ?_
        refine ret1 (.bool true) rfl rfl ⟨_, rfl, hE, ?_⟩
        obtain rfl : k = xs.length := by omega
        have hlen : xs.length = ys.length := by omega
        rw [List.take_length, hlen, List.take_length] at htk
        simp [htk]
end Go.Proofs.Ytfdmndkoiheebaa
