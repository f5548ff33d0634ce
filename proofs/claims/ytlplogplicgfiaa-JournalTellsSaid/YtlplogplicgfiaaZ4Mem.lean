import Derived.Test.YtlplogplicgfiaaZ4Env
namespace Go.Proofs.Ytlplogplicgfiaa
open Go Go.RowKit
structure Upd (X : Nat → Prop) (w w' : World) : Prop where
  os : w'.os = w.os
  tape : w'.tape = w.tape
  output : w'.output = w.output
  size : w.heap.size ≤ w'.heap.size
  blk : ∀ b, b < w.heap.size → ¬ X b → w'.heap[b]? = w.heap[b]?
abbrev none' : Nat → Prop := fun _ => False
abbrev Ext (w w' : World) : Prop := Upd none' w w'
abbrev one (b : Nat) : Nat → Prop := fun c => c = b
theorem Upd.refl {X : Nat → Prop} (w : World) : Upd X w w := ⟨rfl, rfl, rfl, Nat.le_refl _, fun _ _ _ => rfl⟩
theorem Upd.drew {X : Nat → Prop} (w : World) : Upd X w w.drew := ⟨rfl, rfl, rfl, Nat.le_refl _, fun _ _ _ => rfl⟩
theorem Upd.mono {X Y : Nat → Prop} {w w' : World} (h : Upd X w w') (hxy : ∀ b, b < w.heap.size → X b → Y b) : Upd Y w w' :=
  ⟨h.os, h.tape, h.output, h.size, fun b hb hn => h.blk b hb fun hx => hn (hxy b hb hx)⟩
theorem Upd.trans {X Y : Nat → Prop} {w w' w'' : World} (h : Upd X w w') (k : Upd Y w' w'') (hy : ∀ b, b < w.heap.size → Y b → X b) : Upd X w w'' :=
  ⟨k.os.trans h.os, k.tape.trans h.tape, k.output.trans h.output, Nat.le_trans h.size k.size,
    fun b hb hn => (k.blk b (Nat.lt_of_lt_of_le hb h.size) fun hx => hn (hy b hb hx)).trans (h.blk b hb hn)⟩
theorem Upd.ext {X : Nat → Prop} {w w' w'' : World} (h : Upd X w w') (k : Ext w' w'') : Upd X w w'' := h.trans k fun _ _ hx => hx.elim
theorem Ext.upd {X : Nat → Prop} {w w' : World} (h : Ext w w') : Upd X w w' := h.mono fun _ _ hx => hx.elim
theorem Upd.push {X : Nat → Prop} (w : World) (o : Obj) : Upd X w (w.alloc o) :=
  ⟨rfl, rfl, rfl, by show w.heap.size ≤ (w.heap.push o).size; simp, fun b hb _ => by show (w.heap.push o)[b]? = _; simp [Array.getElem?_push, Nat.ne_of_lt hb]⟩
theorem Upd.agree {X S : Nat → Prop} {w w' : World} (h : Upd X w w') (hs : ∀ b, S b → b < w.heap.size ∧ ¬ X b) : AgreeOn S w w' :=
  fun b hb => h.blk b (hs b hb).1 (hs b hb).2
def Blk (w : World) (b : Nat) (ty : TypeId) (cs : Array Value) : Prop := w.heap[b]? = some (.cells cs ty (0, 0))
theorem lt_of_get {w : World} {b : Nat} {o : Obj} (h : w.heap[b]? = some o) : b < w.heap.size := (Array.getElem?_eq_some_iff.1 h).1
theorem Blk.lt {w : World} {b : Nat} {ty : TypeId} {cs : Array Value} (h : Blk w b ty cs) : b < w.heap.size := lt_of_get h
theorem Blk.up {X : Nat → Prop} {w w' : World} {b : Nat} {ty : TypeId} {cs : Array Value} (h : Blk w b ty cs) (u : Upd X w w') (hx : ¬ X b) : Blk w' b ty cs :=
  (u.blk b h.lt hx).trans h
theorem Blk.ext {w w' : World} {b : Nat} {ty : TypeId} {cs : Array Value} (h : Blk w b ty cs) (u : Ext w w') : Blk w' b ty cs := h.up u id
theorem Blk.cell {w : World} {b : Nat} {ty : TypeId} {cs : Array Value} (h : Blk w b ty cs) (i : Nat) : w.cell? ⟨b, i, none⟩ = cs[i]? := by
  unfold Blk at h; simp [World.cell?, h]
theorem Blk.frozen {w : World} {b : Nat} {ty : TypeId} {cs : Array Value} (h : Blk w b ty cs) (i : Nat) : w.frozen? ⟨b, i, none⟩ = false := by
  unfold Blk at h; simp [World.frozen?, h]
theorem Blk.push (w : World) (cs : Array Value) (ty : TypeId) : Blk (w.alloc (.cells cs ty)) w.heap.size ty cs := by
  show (w.heap.push _)[w.heap.size]? = _; simp
theorem Blk.inj {w : World} {b : Nat} {ty ty' : TypeId} {cs cs' : Array Value} (h : Blk w b ty cs) (h' : Blk w b ty' cs') : cs = cs' ∧ ty = ty' := by
  unfold Blk at h h'; rw [h] at h'; simp at h'; exact h'
theorem Blk.ne {w : World} {b c : Nat} {ty ty' : TypeId} {cs cs' : Array Value} (h : Blk w b ty cs) (h' : Blk w c ty' cs') (hne : ty ≠ ty') : b ≠ c := fun e => by
  subst e; exact hne (h.inj h').2
theorem Blk.upT {w w' : World} {b c : Nat} {ty ty' : TypeId} {cs cs' : Array Value} (h : Blk w b ty cs) (u : Upd (one c) w w') (h' : Blk w c ty' cs') (hne : ty ≠ ty') : Blk w' b ty cs :=
  h.up u (h.ne h' hne)
theorem cell_agree {w w' : World} {a : Addr} (h : w'.heap[a.block]? = w.heap[a.block]?) : w'.cell? a = w.cell? a := by simp [World.cell?, h]
theorem add_block (a : Addr) (j : Nat) : (a.add j).block = a.block := by unfold Addr.add; split <;> rfl
theorem add_none (b o j : Nat) : (⟨b, o, none⟩ : Addr).add j = ⟨b, o + j, none⟩ := by unfold Addr.add; split <;> simp_all
theorem cell_lt {w : World} {a : Addr} {v : Value} (h : w.cell? a = some v) : a.block < w.heap.size := by
  unfold World.cell? at h
  cases hb : w.heap[a.block]? with
  | none => simp [hb] at h
  | some o => exact lt_of_get hb
def vblk : Value → Option Nat
  | .slice (some p) _ _ => some p.block
  | .pointer (some p) => some p.block
  | _ => none
def Row (w : World) (k : Nat) (v : Value) (n : Nat) (cs : List Value) : Prop :=
  ∃ a cap, v = .slice a n cap ∧ n ≤ cap ∧ cs.length = n * k ∧ ∀ j, j < cs.length → ∃ p : Addr, a = some p ∧ w.cell? (p.add j) = cs[j]?
def Sl (w : World) (ty : TypeId) (k : Nat) (v : Value) (n : Nat) (cs : List Value) : Prop :=
  ∃ a cap, v = .slice a n cap ∧ n ≤ cap ∧ cs.length = n * k ∧ ((a = none ∧ cap = 0) ∨
    ∃ b off cur, a = some ⟨b, off, none⟩ ∧ Blk w b ty cur ∧ off + cap * k ≤ cur.size ∧ ∀ j, j < cs.length → cur[off + j]? = cs[j]?)
theorem Sl.row {w : World} {ty : TypeId} {k : Nat} {v : Value} {n : Nat} {cs : List Value} (h : Sl w ty k v n cs) : Row w k v n cs := by
  obtain ⟨a, cap, rfl, hc, hl, h⟩ := h; refine ⟨a, cap, rfl, hc, hl, fun j hj => ?_⟩; rcases h with ⟨rfl, rfl⟩ | ⟨b, off, cur, rfl, hb, _, hj'⟩
  · obtain rfl : n = 0 := by omega
    simp at hl; simp [hl] at hj
  · exact ⟨_, rfl, by rw [add_none, hb.cell, hj' j hj]⟩
theorem Row.up {X : Nat → Prop} {w w' : World} {k : Nat} {v : Value} {n : Nat} {cs : List Value} (h : Row w k v n cs) (u : Upd X w w') (hx : ∀ b, vblk v = some b → ¬ X b) : Row w' k v n cs := by
  obtain ⟨a, cap, rfl, hc, hl, h⟩ := h; refine ⟨a, cap, rfl, hc, hl, fun j hj => ?_⟩; obtain ⟨p, rfl, hp⟩ := h j hj; refine ⟨p, rfl, ?_⟩; rw [← hp]; refine cell_agree (u.blk _ ?_ ?_)
  · exact cell_lt (hp.trans (List.getElem?_eq_getElem hj))
  · rw [add_block]; exact hx _ rfl
theorem Row.ext {w w' : World} {k : Nat} {v : Value} {n : Nat} {cs : List Value} (h : Row w k v n cs) (u : Ext w w') : Row w' k v n cs := h.up u fun _ _ => id
theorem Sl.up {X : Nat → Prop} {w w' : World} {ty : TypeId} {k : Nat} {v : Value} {n : Nat} {cs : List Value} (h : Sl w ty k v n cs) (u : Upd X w w') (hx : ∀ b, vblk v = some b → ¬ X b) : Sl w' ty k v n cs := by
  obtain ⟨a, cap, rfl, hc, hl, h⟩ := h; refine ⟨a, cap, rfl, hc, hl, ?_⟩; rcases h with h | ⟨b, off, cur, rfl, hb, h⟩
  · exact .inl h
  · exact .inr ⟨b, off, cur, rfl, hb.up u (hx b rfl), h⟩
theorem Sl.ext {w w' : World} {ty : TypeId} {k : Nat} {v : Value} {n : Nat} {cs : List Value} (h : Sl w ty k v n cs) (u : Ext w w') : Sl w' ty k v n cs := h.up u fun _ _ => id
theorem Sl.upT {w w' : World} {c : Nat} {ty ty' : TypeId} {cs' : Array Value} {k : Nat} {v : Value} {n : Nat} {cs : List Value} (h : Sl w ty k v n cs) (u : Upd (one c) w w') (h' : Blk w c ty' cs') (hne : ty ≠ ty') : Sl w' ty k v n cs := by
  obtain ⟨a, cap, rfl, hc, hl, h⟩ := h; refine ⟨a, cap, rfl, hc, hl, ?_⟩; rcases h with h | ⟨b, off, cur, rfl, hb, h⟩
  · exact .inl h
  · exact .inr ⟨b, off, cur, rfl, hb.upT u h' hne, h⟩
theorem Row.len {w : World} {k : Nat} {v : Value} {n : Nat} {cs : List Value} (h : Row w k v n cs) : cs.length = n * k := by
  obtain ⟨a, cap, rfl, hc, hl, h⟩ := h; exact hl
theorem Sl.len {w : World} {ty : TypeId} {k : Nat} {v : Value} {n : Nat} {cs : List Value} (h : Sl w ty k v n cs) : cs.length = n * k := h.row.len
theorem Sl.lt {w : World} {ty : TypeId} {k : Nat} {v : Value} {n : Nat} {cs : List Value} (h : Sl w ty k v n cs) : ∀ b, vblk v = some b → b < w.heap.size := by
  obtain ⟨a, cap, rfl, hc, hl, h⟩ := h; rcases h with ⟨rfl, _⟩ | ⟨b, off, cur, rfl, hb, _⟩
  · intro b hb; simp [vblk] at hb
  · intro b' hb'; simp [vblk] at hb'; subst hb'; exact hb.lt
theorem Sl.nil (w : World) (ty : TypeId) (k : Nat) : Sl w ty k (.slice none 0 0) 0 [] := ⟨none, 0, rfl, Nat.le_refl _, by simp, .inl ⟨rfl, rfl⟩⟩
theorem Row.nil (w : World) (k : Nat) : Row w k (.slice none 0 0) 0 [] := (Sl.nil w 0 k).row
def elemPtr (v : Value) (j : Nat) : Value :=
  match v with
  | .slice (some p) _ _ => .pointer (some (p.add j))
  | _ => undef
abbrev ints (xs : List Int) : List Value := xs.map (Value.int .i64)
abbrev Ints (w : World) (v : Value) (xs : List Int) : Prop := Row w 1 v xs.length (ints xs)
structure Ty (P : Program) (t : TypeId) (k bytes : Nat) (agg : Bool) (z : Value) : Prop where
  info : (P.info? t).map (fun i => (i.zero, i.size, i.bytes)) = some (some z, k, bytes)
  agg : ∃ d, P.underlying t = some d ∧ (match d with | .struct _ | .array _ _ => true | _ => false) = agg
section
variable {P : Program} {t : TypeId} {k bytes : Nat} {agg : Bool} {z : Value}
theorem Ty.sizeOf (h : Ty P t k bytes agg z) (w : World) : (sizeOf t).run P w = .ok k w := by
  obtain ⟨i, hi, h0, h1, h2⟩ := info_parts h.info; simp [Go.sizeOf, typeInfo, hi, h1]
theorem Ty.zero (h : Ty P t k bytes agg z) (w : World) : (zeroValue t).run P w = .ok z w := by
  obtain ⟨i, hi, h0, h1, h2⟩ := info_parts h.info; simp [zeroValue, typeInfo, hi, h0]
theorem Ty.isAgg (h : Ty P t k bytes agg z) (w : World) : (isAgg t).run P w = .ok agg w := by
  obtain ⟨d, hd, ha⟩ := h.agg; simp only [Go.isAgg, underlying, Sem.run_bind, run_program, Result.andThen_ok, hd, Sem.run_pure]; cases d <;> simp_all
end
end Go.Proofs.Ytlplogplicgfiaa
