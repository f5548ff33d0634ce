import Derived.Test.YtlplogplicgfiaaZ10JV
import Derived.Test.YtlplogplicgfiaaRows
import Derived.ChangeSlices
import Derived.Deep.SlicePairs
import Derived.Deep.Grids
import Derived.WalkKit
import Derived.ProofKit
import Derived.OpenShut
import Derived.ChangeSame
import Derived.JoinedOf
import Derived.JoinedAt
import Derived.RowKit3
import Derived.Lib.SmallJoins
import Derived.Deep.Matrix
import Derived.Deep.OwnRows
import Derived.WideKeyArgs
namespace Go.Proofs.Ytlplogplicgfiaa
open Go Go.RowKit
theorem u8_getD {xs : List Nat} {i : Nat} (hi : i < xs.length) : (u8s xs)[i * 1]? = some (.int .u8 ((xs.getD i 0 : Nat) : Int)) := by
  rw [Nat.mul_one, u8_at hi, List.getD_eq_getElem?_getD, List.getElem?_eq_getElem hi]; rfl
theorem u8s_set (xs : List Nat) (i : Nat) (b : Nat) : (u8s xs).set i (.int .u8 ((b : Nat) : Int)) = u8s (xs.set i b) := by simp [u8s, List.map_set]
structure RD (w : World) (vb vd : Value) (d : Dk) : Prop where
  bls : Sl w 26 64 vb d.bl.length (blocksC d.bl)
  bds : Sl w 4 1 vd d.bad.length (bools d.bad)
  ok : ∀ b ∈ d.bl, BlockP b
section
variable {w w' : World} {vb vd : Value} {d : Dk}
theorem RD.up {X : Nat → Prop} (h : RD w vb vd d) (u : Upd X w w') (h2 : ∀ b, vblk vb = some b → ¬ X b) (h3 : ∀ b, vblk vd = some b → ¬ X b) : RD w' vb vd d := ⟨h.bls.up u h2, h.bds.up u h3, h.ok⟩
theorem RD.ext (h : RD w vb vd d) (u : Ext w w') : RD w' vb vd d := h.up u (fun _ _ => id) (fun _ _ => id)
theorem RD.upT {b : Nat} {cs : Array Value} {ty : TypeId} (h : RD w vb vd d) (u : Upd (one b) w w') (hB : Blk w b ty cs) (hne : 26 ≠ ty ∧ 4 ≠ ty) : RD w' vb vd d := ⟨h.bls.upT u hB hne.1, h.bds.upT u hB hne.2, h.ok⟩
theorem RD.upS {x : Value} {ty' k' m : Nat} {ds : List Value} (h : RD w vb vd d) (u : Upd (fun b => vblk x = some b) w w') (hx : Sl w ty' k' x m ds) (hne : 26 ≠ ty' ∧ 4 ≠ ty') : RD w' vb vd d := ⟨h.bls.upS u hx hne.1, h.bds.upS u hx hne.2, h.ok⟩
theorem RD.new {b : Nat} (h : RD w vb vd d) (hb : w.heap.size ≤ b) : ¬ (vblk vb = some b ∨ vblk vd = some b) := by
  rintro (e | e)
  · have := h.bls.lt b e; omega
  · have := h.bds.lt b e; omega
theorem RD.upN {b : Nat} (h : RD w vb vd d) (u : Upd (one b) w w') (hb : ¬ (vblk vb = some b ∨ vblk vd = some b)) : RD w' vb vd d :=
  h.up u (fun x e e1 => hb (.inl (by have e2 : x = b := e1; exact e2 ▸ e))) (fun x e e1 => hb (.inr (by have e2 : x = b := e1; exact e2 ▸ e)))
end
end Go.Proofs.Ytlplogplicgfiaa

namespace Go.Proofs.Ytlplogplicgfiaa
open Go Go.RowKit Go.ChangeShapes Go.WideShapes Go.ChangeAt Go.Joins Go.Deep
theorem knob : ownKnob Try.prog.godebug = none := by kernel_rfl
theorem laidOut : laidOutB Try.prog = true := by kernel_rfl
theorem maxLen_eq : maxLen = 9223372036854775807 := rfl
theorem Ext.since {w w' : World} (h : Ext w w') : w.Since w.heap.size w' := ⟨h.os, h.tape, h.output, h.size, fun k hk => h.blk k hk id⟩
section
variable {H : Type} {enc : TypeId × Value → H}
theorem trodAll_stays {W W' : World} {sp' : Nat → Bool} {ts : List TypeId} {vs : List Value} {ds : List (DataW H)} {ps : List MemPlace} (hr : ∀ t ∈ ts, Try.prog.readableRec t = true ∧ t < Try.prog.types.size)
    (h : DataW.TrodAll enc Try.prog W 0 (fun _ => true) true ts vs ds ps) (hsame : ∀ p ∈ ps, W.sameAt W' p) (hs : ∀ p ∈ ps, sp' p.block = true) : DataW.TrodAll enc Try.prog W' 0 sp' true ts vs ds ps := by
  induction ts generalizing vs ds ps with
  | nil => cases vs <;> cases ds <;> simp_all [DataW.TrodAll]
  | cons t ts ih =>
    obtain ⟨v, vs', d, ds', p, q, rfl, rfl, rfl, h1, h2⟩ := trodAll_cons h
    have ht := hr t List.mem_cons_self
    refine ⟨p, q, WideElems.Trod_stays laidOut ht.1 ht.2 h1 (fun x hx => hsame x (List.mem_append_left _ hx)) (fun x hx => hs x (List.mem_append_left _ hx)), ?_, rfl⟩
    exact ih (fun x hx => hr x (List.mem_cons_of_mem _ hx)) h2 (fun x hx => hsame x (List.mem_append_right _ hx)) (fun x hx => hs x (List.mem_append_right _ hx))
theorem law_post {f : Func} {s : ChangeSpec} {W W' : World} {args : Array Value} {ds gs : List (DataW H)} {before : List MemPlace} (hv : s.vars = []) (hW : DataW.Whole enc Try.prog f.params.toList s.vars false W args.toList ds gs before)
    (hfn : s.fn H (ds ++ gs) = { results := [.lit (.bool true)], args := ds }) (hres : f.resultTypes = #[4]) (hr : ∀ t ∈ f.params.toList, Try.prog.readableRec t = true ∧ t < Try.prog.types.size) (hE : Ext W W') :
    s.post enc Try.prog f false true false false W args (.bool true) W' := by
  have hs := hE.since
  have hlt : ∀ x ∈ before, x.block < W.heap.size := fun x hx => hW.lt x hx
  have hW' := hW
  obtain ⟨p, q, hA, hV, rfl, hfz, hnd⟩ := hW
  rw [hv] at hV
  obtain ⟨rfl, rfl⟩ := trodVars_none hV
  refine ⟨ds, [], p ++ [], [], p, [], hW', ?_, ?_, ?_, hs.frame _, nofun⟩
  · rw [hfn, hres]
    exact trodAll_cons_mk (shut_bool Try.underlying4 _) trodAll_mk0
  · rw [hfn]
    exact trodAll_stays hr hA (fun x hx => hs.sameAt (hlt x (by simpa using hx))) (fun x hx => by simpa using hlt x (by simpa using hx))
  · rw [hfn, hv]
    rfl
set_option maxRecDepth 100000 in
set_option maxRecDepth 100000 in
theorem open_u8 {W : World} {b0 : Nat} {v : Value} {d : DataW H} {p : List MemPlace} (hv : Value.okWide Try.prog W .any b0 5 v) (h : DataW.Trod enc Try.prog W 0 (fun _ => true) true 5 v d p) :
    ∃ k : Nat, v = .int .u8 (k : Int) ∧ k < 256 := by
  obtain ⟨k, rfl, rfl, rfl, wk⟩ := open_int Try.underlying5 hv h
  have hk : 0 ≤ k ∧ k ≤ 255 := by simpa [Lit.wf, IntKind.min, IntKind.max, IntKind.signed, IntKind.bits] using wk
  exact ⟨k.toNat, by rw [show ((k.toNat : Nat) : Int) = k by omega], by omega⟩
set_option maxRecDepth 100000 in
set_option maxRecDepth 100000 in
end
end Go.Proofs.Ytlplogplicgfiaa

namespace Go.Proofs.Ytlplogplicgfiaa
open Go Go.RowKit
theorem arr_getD {b : List Nat} (hl : b.length = 64) {i : Nat} (h : i < 64) : (blkV b)[0 + i]? = some (.int .u8 ((b.getD i 0 : Nat) : Int)) := by
  rw [Nat.zero_add, List.getD_eq_getElem?_getD, List.getElem?_eq_getElem (by omega)]; simp [hl, h]
namespace R
variable {P : Program} {ops : Array Oper} {S : Bool → Nat → Prop} {dr : Bool} {B : List Nat} {F : Env → World → Prop} {rest : List Oper} {e : Env} {w : World}
variable {d : Tmp} {od : Option Tmp} {ty : TypeId} {pos : String} {aft : Array Edge}
theorem u8wrap (n : Nat) : IntKind.u8.wrap ((n : Nat) : Int) = ((n % 256 : Nat) : Int) := by
  have h8 : IntKind.u8.bits = 8 := rfl
  simp [IntKind.wrap, h8, IntKind.signed]
theorem addU8 {t t' : TypeId} {x y : Operand} {m n : Nat} (hx : ev e x = .int .u8 ((m : Nat) : Int)) (hy : ev e y = .int .u8 ((n : Nat) : Int))
    (h : wpR P ops S dr (kind B) F rest (upd e d (.int .u8 (((m + n) % 256 : Nat) : Int))) w) : wpR P ops S dr (kind B) F (⟨some d, .binOp .add t x y t', ty, pos, aft, none⟩ :: rest) e w :=
  bin hx hy _ (fun w => by have e := u8wrap (m + n); rw [Int.natCast_add] at e; simp [binOp, Op.intArith, e]) h
end R
abbrev pcC (h : Hd) (k : Nat) (v : Value) : Array Value := #[.int .i64 ((k : Nat) : Int), .int .i64 ((h.total : Nat) : Int), .int .i64 ((h.number : Nat) : Int), .int .i64 ((h.life : Nat) : Int), .int .i64 ((h.first : Nat) : Int), v]
end Go.Proofs.Ytlplogplicgfiaa

namespace Go.Proofs.Ytlplogplicgfiaa
open Go Go.RowKit
namespace R
variable {P : Program} {ops : Array Oper} {S : Bool → Nat → Prop} {dr : Bool} {B : List Nat} {F : Env → World → Prop} {rest : List Oper} {e : Env} {w : World}
variable {d : Tmp} {od : Option Tmp} {ty : TypeId} {pos : String} {aft : Array Edge}
theorem addV {t t' : TypeId} {x y : Operand} {m n v : Int} (hx : ev e x = .int .i64 m) (hy : ev e y = .int .i64 n) (hv : m + n = v) (h1 : -9223372036854775808 ≤ v) (h2 : v ≤ 9223372036854775807)
    (h : wpR P ops S dr (kind B) F rest (upd e d (.int .i64 v)) w) : wpR P ops S dr (kind B) F (⟨some d, .binOp .add t x y t', ty, pos, aft, none⟩ :: rest) e w := by
  subst hv; exact add hx hy h1 h2 h
end R
end Go.Proofs.Ytlplogplicgfiaa

namespace Go.Proofs.Ytlplogplicgfiaa
open Go Go.RowKit
def pcsC (h : Hd) : Nat → List Value → List Value
  | _, [] => []
  | k, u :: us => (pcC h k u).toList ++ pcsC h (k + 1) us
theorem Sl.new {w : World} {ty : TypeId} {k n b : Nat} {v : Value} {cs : List Value} (h : Sl w ty k v n cs) (hb : w.heap.size ≤ b) : vblk v ≠ some b := fun e => by have := h.lt b e; omega
theorem Sl.upN {w w' : World} {ty : TypeId} {k n b : Nat} {v : Value} {cs : List Value} (h : Sl w ty k v n cs) (u : Upd (fun c => c = b) w w') (hb : vblk v ≠ some b) : Sl w' ty k v n cs := h.up u (fun x e e1 => hb (by have e2 : x = b := e1; exact e2 ▸ e))
structure Rows8 (w : World) (us : List Value) (l : List (List Nat)) : Prop where
  len : us.length = l.length
  rows : ∀ i, i < l.length → SU8s w (us.getD i undef) (l.getD i [])
section
variable {w w' : World} {us : List Value} {l : List (List Nat)}
def UB (us : List Value) (x : Nat) : Prop := ∃ u ∈ us, vblk u = some x
theorem Rows8.get (h : Rows8 w us l) {u : Value} (hu : u ∈ us) : ∃ dt, SU8s w u dt := by
  obtain ⟨i, hi, rfl⟩ := List.mem_iff_getElem.1 hu
  have h1 := h.rows i (by have := h.len; omega)
  rw [List.getD_eq_getElem?_getD, List.getElem?_eq_getElem hi] at h1
  exact ⟨_, h1⟩
theorem Rows8.up {X : Nat → Prop} (h : Rows8 w us l) (u : Upd X w w') (hX : ∀ x, X x → ¬ UB us x) : Rows8 w' us l := ⟨h.len, fun i hi => (h.rows i hi).up u (fun b hb e => hX b e ⟨us.getD i undef, by
    have := h.len
    rw [List.getD_eq_getElem?_getD, List.getElem?_eq_getElem (by omega)]; exact List.getElem_mem _, hb⟩)⟩
theorem Rows8.ext (h : Rows8 w us l) (u : Ext w w') : Rows8 w' us l := h.up u (fun _ e => e.elim)
theorem Rows8.ub (h : Rows8 w us l) {x : Nat} (hx : UB us x) : ∃ cs, Blk w x 5 cs := by
  obtain ⟨u, hu, e⟩ := hx
  obtain ⟨dt, hd⟩ := h.get hu
  exact hd.blk e
theorem Rows8.notT (h : Rows8 w us l) {b : Nat} {ty : TypeId} {cs : Array Value} (hB : Blk w b ty cs) (hne : 5 ≠ ty) : ¬ UB us b := fun e => by
  obtain ⟨c, q⟩ := h.ub e; exact q.ne hB hne rfl
theorem Rows8.new (h : Rows8 w us l) {b : Nat} (hb : w.heap.size ≤ b) : ¬ UB us b := fun e => by obtain ⟨c, q⟩ := h.ub e; have := q.lt; omega
theorem Rows8.upN {b : Nat} (h : Rows8 w us l) (u : Upd (one b) w w') (hb : ¬ UB us b) : Rows8 w' us l := h.up u (fun x e => by have e1 : x = b := e; rw [e1]; exact hb)
theorem Rows8.upT {b : Nat} {ty : TypeId} {cs : Array Value} (h : Rows8 w us l) (u : Upd (one b) w w') (hB : Blk w b ty cs) (hne : 5 ≠ ty) : Rows8 w' us l := h.upN u (h.notT hB hne)
theorem Rows8.upS {x : Value} {ty' k' m : Nat} {ds : List Value} (h : Rows8 w us l) (u : Upd (fun b => vblk x = some b) w w') (hx : Sl w ty' k' x m ds) (hne : 5 ≠ ty') : Rows8 w' us l := h.up u (fun b e => by obtain ⟨c, q⟩ := hx.blk e; exact h.notT q hne)
theorem Rows8.one (h : Rows8 w us l) : ∀ u ∈ us, u.oneCell' = true := fun u hu => by obtain ⟨dt, hd⟩ := h.get hu; exact hd.one
theorem Rows8.nil : Rows8 w [] [] := ⟨rfl, fun i hi => by simp at hi⟩
theorem Rows8.snoc (h : Rows8 w us l) {u : Value} {dt : List Nat} (hu : SU8s w u dt) : Rows8 w (us ++ [u]) (l ++ [dt]) := by
  have hl := h.len
  refine ⟨by simp [hl], fun i hi => ?_⟩
  simp only [List.length_append, List.length_cons, List.length_nil] at hi
  simp only [List.getD_eq_getElem?_getD]
  rcases Nat.lt_or_ge i l.length with h1 | h1
  · rw [List.getElem?_append_left (by omega), List.getElem?_append_left h1]
    have := h.rows i h1
    simpa only [List.getD_eq_getElem?_getD] using this
  · obtain rfl : i = l.length := by omega
    rw [List.getElem?_append_right (by omega), List.getElem?_append_right (by omega), hl, Nat.sub_self]
    exact hu
end
structure PS (w : World) (v : Value) (us : List Value) (h : Hd) (l : List (List Nat)) : Prop where
  sl : Sl w 120 6 v l.length (pcsC h 0 us)
  rows : Rows8 w us l
section
variable {w w' : World} {v : Value} {us : List Value} {h : Hd} {l : List (List Nat)}
def PB (v : Value) (us : List Value) (x : Nat) : Prop := vblk v = some x ∨ UB us x
theorem PS.up {X : Nat → Prop} (p : PS w v us h l) (u : Upd X w w') (hX : ∀ x, X x → ¬ PB v us x) : PS w' v us h l := ⟨p.sl.up u (fun b hb e => hX b e (.inl hb)), p.rows.up u (fun x e q => hX x e (.inr q))⟩
theorem PS.ext (p : PS w v us h l) (u : Ext w w') : PS w' v us h l := p.up u (fun _ e => e.elim)
theorem PS.pb (p : PS w v us h l) {x : Nat} (hx : PB v us x) : ∃ ty cs, Blk w x ty cs ∧ (ty = 120 ∨ ty = 5) := by
  rcases hx with hx | hx
  · obtain ⟨c, q⟩ := p.sl.blk hx; exact ⟨_, _, q, .inl rfl⟩
  · obtain ⟨c, q⟩ := p.rows.ub hx; exact ⟨_, _, q, .inr rfl⟩
theorem PS.new (p : PS w v us h l) {b : Nat} (hb : w.heap.size ≤ b) : ¬ PB v us b := fun e => by obtain ⟨ty, c, q, _⟩ := p.pb e; have := q.lt; omega
theorem PS.notT (p : PS w v us h l) {b : Nat} {ty : TypeId} {cs : Array Value} (hB : Blk w b ty cs) (hne : 120 ≠ ty ∧ 5 ≠ ty) : ¬ PB v us b := fun e => by
  obtain ⟨ty', c, q, h1⟩ := p.pb e
  have h2 := (q.inj hB).2
  rcases h1 with rfl | rfl
  · exact hne.1 h2
  · exact hne.2 h2
theorem PS.upN {b : Nat} (p : PS w v us h l) (u : Upd (one b) w w') (hb : ¬ PB v us b) : PS w' v us h l := p.up u (fun x e => by have e1 : x = b := e; rw [e1]; exact hb)
theorem PS.upT {b : Nat} {ty : TypeId} {cs : Array Value} (p : PS w v us h l) (u : Upd (one b) w w') (hB : Blk w b ty cs) (hne : 120 ≠ ty ∧ 5 ≠ ty) : PS w' v us h l := p.upN u (p.notT hB hne)
theorem PS.upS {x : Value} {ty' k' m : Nat} {ds : List Value} (p : PS w v us h l) (u : Upd (fun b => vblk x = some b) w w') (hx : Sl w ty' k' x m ds) (hne : 120 ≠ ty' ∧ 5 ≠ ty') : PS w' v us h l := p.up u (fun b e => by obtain ⟨c, q⟩ := hx.blk e; exact p.notT q hne)
theorem PS.nil : PS w (.slice none 0 0) [] h [] := ⟨Sl.nil _ _ _, Rows8.nil⟩
end
def foundR (d : Dk) (a : Nat) (h : Hd) : Option (List (List Nat)) := if d.n < h.total then none else foundL d a h h.total
end Go.Proofs.Ytlplogplicgfiaa

namespace Go.Proofs.Ytlplogplicgfiaa
open Go Go.RowKit
def BRp (r : Dk) (x : Rc) (l : List (List Nat)) : Prop := (x = Rc0 ∧ l = []) ∨ (RcP r x ∧ foundR r x.at_ x.h = some l)
theorem foundR_len {r : Dk} {a : Nat} {h : Hd} {l : List (List Nat)} (hf : foundR r a h = some l) : l.length = h.total := by
  unfold foundR at hf
  split at hf
  · exact absurd hf (by simp)
  · exact (foundL_parts hf).1
theorem BRp.len {r : Dk} {x : Rc} {l : List (List Nat)} (h : BRp r x l) : l.length = x.h.total := by
  rcases h with ⟨rfl, rfl⟩ | ⟨_, h⟩
  · rfl
  · exact foundR_len h
theorem BRp.zero {r : Dk} {x : Rc} {l : List (List Nat)} (h : BRp r x l) (h0 : l.length = 0) : x = Rc0 := by
  rcases h with ⟨rfl, rfl⟩ | ⟨h1, h2⟩
  · rfl
  · have := foundR_len h2; have := h1.tot0; omega
theorem PS.eq {w : World} {v : Value} {us : List Value} {h g : Hd} {l : List (List Nat)} (p : PS w v us h l) (e : h = g) : PS w v us g l := e ▸ p
end Go.Proofs.Ytlplogplicgfiaa

namespace Go.Proofs.Ytlplogplicgfiaa
open Go Go.RowKit
def fillP (n i b : Nat) : List Nat := List.replicate i b ++ List.replicate (n - i) 0
theorem fillP_len {n i b : Nat} (h : i ≤ n) : (fillP n i b).length = n := by simp [fillP]; omega
theorem fillP_set {n i b : Nat} (h : i < n) : (fillP n i b).set i b = fillP n (i + 1) b := by
  unfold fillP
  obtain ⟨m, hm⟩ : ∃ m, n - i = m + 1 := ⟨n - i - 1, by omega⟩
  rw [hm, show n - (i + 1) = m by omega, List.set_append, if_neg (by simp), List.length_replicate, Nat.sub_self, List.replicate_succ (n := m), List.set_cons_zero, List.replicate_succ', List.append_assoc]; rfl
theorem fillP_end {n i b : Nat} (h : i = n) : fillP n i b = List.replicate n b := by subst h; simp [fillP]
theorem eqTake {xs ys : List Nat} (hl : xs.length = ys.length) (h : ∀ k, k < xs.length → xs.getD k 0 = ys.getD k 0) : xs = ys := by
  apply List.ext_getElem hl
  intro i h1 h2
  have := h i h1
  simpa [List.getD_eq_getElem?_getD, h1, h2] using this
theorem fill_ (w : World) {m b : Nat} (hn : m ≤ 1000000) : Calls Try.prog 25 #[.int .i64 (m : Nat), .int .u8 (b : Nat)] w (Ret fun r w' => Ext w w' ∧ SU8s w' r (List.replicate m b) ∧ Fresh w r) := by
  have hrl := List.length_replicate (n := m) (a := 0)
  refine calls_E (args := [.int .i64 ((m : Nat) : Int), .int .u8 ((b : Nat) : Int)]) 20 Try.func25 rfl rfl (by simp) ?_
  have hE : Ext w w := Upd.refl w
  refine E.seq ?_
  refine E.regionP rfl ?_
  refine R.assign ?_
  refine R.nil ?_
  refine E.seq ?_
  refine E.regionP rfl ?_
  refine R.move ?_
  refine R.makeK (n := m) (c := m) Try.underlying55 t5 (by decide) z5 rfl rfl (Nat.le_refl _) (by omega) (by omega) nofun ?_
  intro b8 w1 hb8 hx1 hS8
  replace hb8 := Nat.le_trans hE.size hb8
  replace hE := hE.ext hx1
  replace hS8 : SU8s _ (.slice (some ⟨b8, 0, none⟩) m m) (List.replicate m 0) := SU8s.made hS8
  refine R.assign ?_
  refine R.nil ?_
  refine E.seq ?_
  refine E.seq ?_
  refine E.regionP rfl ?_
  refine R.move ?_
  refine R.len Try.underlying55 hS8.row rfl ?_
  refine R.move ?_
  refine R.nil ?_
  refine E.block ?_
  refine E.loop (fun n e wr => ∃ (i : Nat), n = m - i ∧ i ≤ m ∧ SU8s wr (.slice (some ⟨b8, 0, none⟩) m m) (fillP m i b) ∧ Ext w wr ∧ Has e [(1, .int .u8 ((b : Nat) : Int)), (5, (.slice (some ⟨b8, 0, none⟩) m m)), (10, .int .i64 (((List.replicate m 0).length : Nat) : Int)), (11, .int .i64 ((i : Nat) : Int))]) (m) ?_ ?_
  · exact ⟨0, rfl, by omega, (by rw [show fillP m 0 b = List.replicate m 0 by simp [fillP]]; exact hS8), hE, rfl, rfl, rfl, rfl, trivial⟩
  · rintro n e wr ⟨i, rfl, hi, hS8, hE, hH⟩
    obtain ⟨e, rfl⟩ := hH.ex
    clear hH
    have hfl := fillP_len (b := b) hi
    refine E.seq ?_
    refine E.regionP rfl ?_
    refine R.lss (b := decide ((((i : Nat) : Int)) < ((((List.replicate m 0).length : Nat) : Int)))) rfl rfl rfl ?_
    refine R.nil ?_
    refine E.seq ?_
    refine E.cond (b := decide ((((i : Nat) : Int)) < ((((List.replicate m 0).length : Nat) : Int)))) rfl (fun hc12 => ?_) (fun hc12 => ?_)
    · replace hc12 := dT hc12
      refine E.skip ?_
      refine E.seq ?_
      refine E.block ?_
      refine E.seq ?_
      refine E.regionP rfl ?_
      refine R.move ?_
      refine R.assign ?_
      refine R.nil ?_
      refine E.regionP rfl ?_
      refine R.move ?_
      refine R.move ?_
      refine R.move ?_
      refine R.ix (m := i) Try.underlying55 t5 (by decide) hS8.row rfl rfl (by omega) ?_
      refine R.stE (j := i) t5 hS8 rfl rfl rfl (by first | omega | decide) nofun ?_
      intro w2 hU2 hs2 hN2
      replace hE := hE.app hU2 (Fresh.blk hb8)
      replace hS8 : Sl _ 5 1 ((.slice (some ⟨b8, 0, none⟩) m m)) ((((fillP m i b)).set i b)).length (u8s ((((fillP m i b)).set i b))) := (by rw [List.length_set, ← u8s_set]; exact hN2)
      refine R.nil ?_
      refine E.regionP rfl ?_
      refine R.addN (m := i) (n := 1) rfl rfl (by omega) ?_
      refine R.move ?_
      refine R.nil ?_
      exact ⟨m - (i + 1), by omega, i + 1, rfl, by omega, (by rw [fillP_set (by omega)] at hS8; exact hS8), hE, rfl, rfl, rfl, rfl, trivial⟩
    · replace hc12 := dF hc12
      refine E.exit ?_
      refine E.seq ?_
      refine E.regionP rfl ?_
      refine R.move ?_
      refine R.assign ?_
      refine R.nil ?_
      refine E.ret ?_
      refine ret1 ((.slice (some ⟨b8, 0, none⟩) m m)) rfl rfl ⟨_, rfl, ?_⟩
      refine ⟨hE, ?_, Fresh.blk hb8⟩
      rw [fillP_end (by omega)] at hS8
      exact hS8
theorem bytes_ (w : World) {v1 v2 : Value} {xs ys : List Nat} (h1 : RU8 w v1 xs) (h2 : RU8 w v2 ys) (hl : xs.length ≤ 1000000) : Calls Try.prog 56 #[v1, v2] w (Ret fun r w' => Ext w w' ∧ r = .bool (decide (xs = ys))) := by
  refine calls_E (args := [v1, v2]) 26 Try.func56 rfl rfl (by simp) ?_
  have hE : Ext w w := Upd.refl w
  refine E.seq ?_
  refine E.regionP rfl ?_
  refine R.assign ?_
  refine R.nil ?_
  refine E.seq ?_
  refine E.seq ?_
  refine E.regionP rfl ?_
  refine R.move ?_
  refine R.len Try.underlying55 h1.row rfl ?_
  refine R.move ?_
  refine R.len Try.underlying55 h2.row rfl ?_
  refine R.neq (b := !decide ((((xs.length : Nat) : Int)) = (((ys.length : Nat) : Int)))) rfl rfl rfl ?_
  refine R.nil ?_
  refine E.cond (b := !decide ((((xs.length : Nat) : Int)) = (((ys.length : Nat) : Int)))) rfl (fun hc10 => ?_) (fun hc10 => ?_)
  · replace hc10 := nT hc10
    refine E.seq ?_
    refine E.regionP rfl ?_
    refine R.assign ?_
    refine R.nil ?_
    refine E.ret ?_
    refine ret1 (.bool (false)) rfl rfl ⟨_, rfl, ?_⟩
    refine ⟨hE, ?_⟩
    rw [decide_eq_false (fun e => by rw [e] at hc10; omega)]
  · replace hc10 := nF hc10
    refine E.skip ?_
    refine E.seq ?_
    refine E.seq ?_
    refine E.regionP rfl ?_
    refine R.assign ?_
    refine R.nil ?_
    refine E.block ?_
    refine E.loop (fun n e wr => ∃ (i : Nat), n = xs.length - i ∧ i ≤ xs.length ∧ (∀ k, k < i → xs.getD k 0 = ys.getD k 0) ∧ RU8 wr v1 xs ∧ RU8 wr v2 ys ∧ Ext w wr ∧ Has e [(0, v1), (1, v2), (5, .int .i64 ((i : Nat) : Int))]) (xs.length) ?_ ?_
    · exact ⟨0, rfl, by omega, fun _ h => absurd h (Nat.not_lt_zero _), h1, h2, hE, rfl, rfl, rfl, trivial⟩
    · rintro n e wr ⟨i, rfl, hi, hz, h1, h2, hE, hH⟩
      obtain ⟨e, rfl⟩ := hH.ex
      clear hH
      refine E.seq ?_
      refine E.seq ?_
      refine E.regionP rfl ?_
      refine R.move ?_
      refine R.move ?_
      refine R.len Try.underlying55 h1.row rfl ?_
      refine R.lss (b := decide ((((i : Nat) : Int)) < (((xs.length : Nat) : Int)))) rfl rfl rfl ?_
      refine R.nil ?_
      refine E.cond (b := decide ((((i : Nat) : Int)) < (((xs.length : Nat) : Int)))) rfl (fun hc14 => ?_) (fun hc14 => ?_)
      · replace hc14 := dT hc14
        refine E.skip ?_
        refine E.seq ?_
        refine E.block ?_
        refine E.seq ?_
        refine E.regionW allS [] mixed rfl (by kernel_rfl) ?_
        intro w1 hx1 hh1
        replace h1 := h1.ext hx1
        replace h2 := h2.ext hx1
        replace hE := hE.ext hx1
        refine R.move ?_
        refine R.move ?_
        refine R.ix (m := i) Try.underlying55 t5 (by decide) h1.row rfl rfl (by omega) ?_
        refine R.load (u := .int .u8 ((xs.getD i 0 : Nat) : Int)) t5 h1.row rfl (u8_getD (i := i) (by first | omega | decide)) rfl (fun _ _ => trivial) ?_
        refine R.move ?_
        refine R.move ?_
        refine R.ix (m := i) Try.underlying55 t5 (by decide) h2.row rfl rfl (by omega) ?_
        refine R.load (u := .int .u8 ((ys.getD i 0 : Nat) : Int)) t5 h2.row rfl (u8_getD (i := i) (by first | omega | decide)) rfl (fun _ _ => trivial) ?_
        refine R.neq (b := !decide ((((xs.getD i 0 : Nat) : Int)) = (((ys.getD i 0 : Nat) : Int)))) rfl rfl rfl ?_
        refine R.nil ?_
        refine E.cond (b := !decide ((((xs.getD i 0 : Nat) : Int)) = (((ys.getD i 0 : Nat) : Int)))) rfl (fun hc25 => ?_) (fun hc25 => ?_)
        · replace hc25 := nT hc25
          refine E.seq ?_
          refine E.forget [] trivial (fun e => ?_)
          refine E.regionP rfl ?_
          refine R.assign ?_
          refine R.nil ?_
          refine E.ret ?_
          refine ret1 (.bool (false)) rfl rfl ⟨_, rfl, ?_⟩
          refine ⟨hE, ?_⟩
          rw [decide_eq_false (fun e => by rw [e] at hc25; omega)]
        · replace hc25 := nF hc25
          refine E.skip ?_
          refine E.forget [(0, v1), (1, v2), (5, .int .i64 ((i : Nat) : Int))] ⟨rfl, rfl, rfl, trivial⟩ (fun e => ?_)
          refine E.regionP rfl ?_
          refine R.move ?_
          refine R.addN (m := i) (n := 1) rfl rfl (by omega) ?_
          refine R.assign ?_
          refine R.nil ?_
          exact ⟨xs.length - (i + 1), by omega, i + 1, rfl, by omega, fun k hk => by rcases Nat.lt_or_ge k i with h | h; (exact hz k h); (obtain rfl : k = i := by omega); omega, h1, h2, hE, rfl, rfl, rfl, trivial⟩
      · replace hc14 := dF hc14
        refine E.exit ?_
        refine E.seq ?_
        refine E.regionP rfl ?_
        refine R.assign ?_
        refine R.nil ?_
        refine E.ret ?_
        refine ret1 (.bool (true)) rfl rfl ⟨_, rfl, ?_⟩
        refine ⟨hE, ?_⟩
        rw [decide_eq_true (eqTake (by omega) (fun k hk => hz k (by omega)))]
end Go.Proofs.Ytlplogplicgfiaa
