import Derived.Test.YtlplogplicgfiaaZ4JA
import Derived.Test.YtlplogplicgfiaaZ4V1
import Derived.Laws.Cover3
namespace Go.Proofs.Ytlplogplicgfiaa
open Go Go.RowKit
def zeroB : List Nat := List.replicate 64 0
theorem zeroB_ok : BlockP zeroB := ⟨by simp [zeroB], fun x hx => by rw [(List.mem_replicate.1 hx).2]; decide⟩
abbrev blkV (b : List Nat) : Array Value := (u8s b).toArray
theorem blkV_size {b : List Nat} (h : b.length = 64) : (blkV b).size = 64 := by simp [h]
theorem blkV_ones {b : List Nat} : ∀ u ∈ (blkV b).toList, u.oneCell' = true := fun u hu => u8s_one u (by simpa using hu)
theorem zeroV : blkV zeroB = Array.replicate 64 (.int .u8 0) := by
  show (List.map _ (List.replicate 64 0)).toArray = _; rw [List.map_replicate]; rfl
theorem build27_0 (w : World) : (Instr.build 27 #[]).run Try.prog w = .ok (.agg (blkV zeroB)) w := by
  rw [zeroV]; have e : (Value.agg (Array.replicate 64 (.int .u8 0))).cells = Array.replicate 64 (.int .u8 0) := rfl; simp [Instr.build, t27.zero, underlying, Try.underlying27, t5.sizeOf, Instr.fill, e]
def Dk.read (d : Dk) (i : Int) : Option (List Nat) := if 0 ≤ i ∧ i < 2 * (d.n : Int) then (if d.bad.getD i.toNat true then none else some (d.bl.getD i.toNat [])) else none
def blkO (o : Option (List Nat)) : List Nat := o.getD zeroB
section
variable {d : Dk} {k : Nat}
theorem Dk.read_out {i : Int} (h : i < 0 ∨ 2 * (d.n : Int) ≤ i) : d.read i = none := by unfold Dk.read; rw [if_neg (by omega)]
theorem Dk.read_bad (h : (k : Int) < 2 * (d.n : Int)) (hk : k < d.bad.length) (hb : d.bad[k] = true) : d.read k = none := by
  unfold Dk.read; rw [if_pos ⟨by omega, h⟩, Int.toNat_natCast, show d.bad.getD k true = true by simp [hk, hb]]; rfl
theorem Dk.read_ok (h : (k : Int) < 2 * (d.n : Int)) (hk : k < d.bad.length) (hb : d.bad[k] = false) (hl : k < d.bl.length) : d.read k = some d.bl[k] := by
  unfold Dk.read; rw [if_pos ⟨by omega, h⟩, Int.toNat_natCast, show d.bad.getD k true = false by simp [hk, hb], show d.bl.getD k [] = d.bl[k] by simp [hl]]; rfl
end
theorem DM.upN {w w' : World} {p b : Nat} {vb vd : Value} {d : Dk} (h : DM w p vb vd d) (u : Upd (one b) w w') (hb : ¬ (p = b ∨ vblk vb = some b ∨ vblk vd = some b)) : DM w' p vb vd d :=
  h.up u (fun e => hb (.inl e)) (fun x e e1 => hb (.inr (.inl (by have e2 : x = b := e1; exact e2 ▸ e)))) (fun x e e1 => hb (.inr (.inr (by have e2 : x = b := e1; exact e2 ▸ e))))
theorem DM.new {w : World} {p b : Nat} {vb vd : Value} {d : Dk} (h : DM w p vb vd d) (hb : w.heap.size ≤ b) : ¬ (p = b ∨ vblk vb = some b ∨ vblk vd = some b) := by
  rintro (e | e | e)
  · have := h.blk.lt; omega
  · have := h.bls.lt b e; omega
  · have := h.bds.lt b e; omega
theorem Dk.n_le (d : Dk) : d.n ≤ 1000 := by
  rcases Nat.eq_zero_or_pos d.n with h | h
  · omega
  · exact (Dk.n_pos h).2.2.2
theorem read_ (w : World) {p : Nat} {vb vd : Value} {d : Dk} {i : Int} (hD : DM w p vb vd d) :
    Calls Try.prog 15 #[.pointer (some ⟨p, 0, none⟩), .int .i64 i] w (Ret fun r w' => Ext w w' ∧ r = .tuple #[.agg (blkV (blkO (d.read i))), .bool (d.read i).isSome]) := by
  have hnl := d.n_le; have hD0 := hD; refine calls_E (args := [P6 p, .int .i64 i]) 32 Try.func15 rfl rfl (by simp) ?_; have hE : Ext w w := Upd.refl w; refine E.seq ?_; refine E.regionP rfl ?_; refine R.alloc t27 nofun ?_; intro b4 w1 hb4 hx4 hB4; have hb4x := hb4; replace hb4 := Nat.le_trans hE.size hb4; have hn4 := hD.new hb4x; replace hD := hD.ext hx4; replace hE := hE.ext hx4; replace hB4 : Blk w1 b4 27 (Array.replicate 64 (.int .u8 0)) := hB4; rw [← zeroV] at hB4; refine R.assign ?_; refine R.nil ?_; (iterate 2 refine E.seq ?_); have hk : i < 0 ∨ 2 * (d.n : Int) ≤ i ∨ ∃ k : Nat, i = k ∧ (k : Int) < 2 * (d.n : Int) := by
    rcases (show i < 0 ∨ 2 * (d.n : Int) ≤ i ∨ (0 ≤ i ∧ i < 2 * (d.n : Int)) by omega) with h | h | h
    · exact .inl h
    · exact .inr (.inl h)
    · exact .inr (.inr ⟨i.toNat, by omega, by omega⟩)
  rcases hk with hk | hk | ⟨k, rfl, hk⟩
  rotate_left 2
  obtain ⟨q1, q2, q3, q4⟩ := Dk.n_pos (d := d) (by omega); have hkb : k < d.bad.length := by omega
  have hkl : k < d.bl.length := by omega
  rcases hbk : d.bad[k] with _ | _
  · refine E.regionP rfl ?_; refine R.move ?_; refine R.lss (b := false) rfl rfl (decide_eq_false (by omega)) ?_; refine R.move ?_; refine R.gT rfl rfl ?_; refine R.move ?_; refine R.gT rfl rfl ?_; refine R.move ?_; refine R.gT rfl rfl ?_; refine R.callE1 ent43 (places_ _ hD) rfl nofun ?_; rintro v11 w1 hx1 rfl; replace hD := hD.ext hx1; replace hB4 := hB4.ext hx1; replace hE := hE.ext hx1; refine R.gT rfl rfl ?_; refine R.mulN (m := 2) (n := d.n) rfl rfl (by omega) ?_; refine R.gT rfl rfl ?_; refine R.geq (b := false) rfl rfl (decide_eq_false (by omega)) ?_; refine R.pickF rfl ?_; refine R.move ?_; refine R.gT rfl rfl ?_; refine R.move ?_; refine R.gT rfl rfl ?_; refine R.nilCheck rfl ?_; refine R.gT rfl rfl ?_; refine R.fld fa25_1 rfl ?_; refine R.gT rfl rfl ?_; refine R.loadB t23 hD.blk rfl rfl rfl trivial ?_; refine R.gT rfl rfl ?_; refine R.move ?_; refine R.gT rfl rfl ?_; refine R.ix (m := k) Try.underlying23 t4 (by decide) hD.bds.row rfl rfl hkb ?_; refine R.gT rfl rfl ?_; refine R.ld (j := k) (u := .bool false) t4 hD.bds.row rfl (by rw [bool_at hkb, hbk]) rfl (fun _ _ => trivial) ?_; refine R.pickF rfl ?_; refine R.nil ?_; refine E.condF rfl ?_; refine E.skip ?_; refine E.seq ?_; refine E.regionP rfl ?_; refine R.move ?_; refine R.nilCheck rfl ?_; refine R.fld fa25_0 rfl ?_; refine R.loadB t22 hD.blk rfl rfl rfl trivial ?_; refine R.move ?_; refine R.ix (m := k) Try.underlying22 t27 (by decide) hD.bls.row rfl rfl hkl ?_; refine R.loadE (j := k * 64) t27 (by decide) hD.bls.row rfl (blocksC_take hD.ok hkl) (by simp [(hD.ok _ (List.getElem_mem hkl)).1]) rfl (fun _ _ => trivial) ?_; refine R.storeA t27 hB4 rfl rfl (blkV_size zeroB_ok.1) (blkV_size (hD.ok _ (List.getElem_mem hkl)).1) blkV_ones nofun ?_; intro w3 hU3 hs3 hN3; replace hD := hD.upN hU3 hn4; replace hE := hE.own hU3 hb4; replace hB4 := hN3; refine R.assign ?_; refine R.nil ?_; refine E.ret ?_; exact retA1 (.bool true) t27 hB4 (blkV_size (hD.ok _ (List.getElem_mem hkl)).1) rfl rfl rfl ⟨_, rfl, hE, by rw [Dk.read_ok hk hkb hbk hkl]; rfl⟩
  · refine E.regionP rfl ?_; refine R.move ?_; refine R.lss (b := false) rfl rfl (decide_eq_false (by omega)) ?_; refine R.move ?_; refine R.gT rfl rfl ?_; refine R.move ?_; refine R.gT rfl rfl ?_; refine R.move ?_; refine R.gT rfl rfl ?_; refine R.callE1 ent43 (places_ _ hD) rfl nofun ?_; rintro v11 w2 hx2 rfl; replace hD := hD.ext hx2; replace hB4 := hB4.ext hx2; replace hE := hE.ext hx2; refine R.gT rfl rfl ?_; refine R.mulN (m := 2) (n := d.n) rfl rfl (by omega) ?_; refine R.gT rfl rfl ?_; refine R.geq (b := false) rfl rfl (decide_eq_false (by omega)) ?_; refine R.pickF rfl ?_; refine R.move ?_; refine R.gT rfl rfl ?_; refine R.move ?_; refine R.gT rfl rfl ?_; refine R.nilCheck rfl ?_; refine R.gT rfl rfl ?_; refine R.fld fa25_1 rfl ?_; refine R.gT rfl rfl ?_; refine R.loadB t23 hD.blk rfl rfl rfl trivial ?_; refine R.gT rfl rfl ?_; refine R.move ?_; refine R.gT rfl rfl ?_; refine R.ix (m := k) Try.underlying23 t4 (by decide) hD.bds.row rfl rfl hkb ?_; refine R.gT rfl rfl ?_; refine R.ld (j := k) (u := .bool true) t4 hD.bds.row rfl (by rw [bool_at hkb, hbk]) rfl (fun _ _ => trivial) ?_; refine R.pickF rfl ?_; refine R.nil ?_; refine E.condT rfl ?_; refine E.seq ?_; refine E.regionP rfl ?_; refine R.build build27_0 rfl ?_; refine R.storeA t27 hB4 rfl rfl (blkV_size zeroB_ok.1) (blkV_size zeroB_ok.1) blkV_ones nofun ?_; intro w3 hU3 hs3 hN3; replace hD := hD.upN hU3 hn4; replace hE := hE.own hU3 hb4; replace hB4 := hN3; refine R.assign ?_; refine R.nil ?_; refine E.ret ?_; exact retA1 (.bool false) t27 hB4 (blkV_size zeroB_ok.1) rfl rfl rfl ⟨_, rfl, hE, by rw [Dk.read_bad hk hkb hbk]; rfl⟩
  · refine E.regionP rfl ?_; refine R.move ?_; refine R.lss (b := true) rfl rfl (decide_eq_true (by omega)) ?_; refine R.move ?_; (iterate 5 refine R.gF rfl rfl rfl ?_); refine R.pickT rfl ?_; refine R.move ?_; (iterate 7 refine R.gF rfl rfl rfl ?_); refine R.pickT rfl ?_; refine R.nil ?_; refine E.condT rfl ?_; refine E.seq ?_; refine E.regionP rfl ?_; refine R.build build27_0 rfl ?_; refine R.storeA t27 hB4 rfl rfl (blkV_size zeroB_ok.1) (blkV_size zeroB_ok.1) blkV_ones nofun ?_; intro w3 hU3 hs3 hN3; replace hD := hD.upN hU3 hn4; replace hE := hE.own hU3 hb4; replace hB4 := hN3; refine R.assign ?_; refine R.nil ?_; refine E.ret ?_; exact retA1 (.bool false) t27 hB4 (blkV_size zeroB_ok.1) rfl rfl rfl ⟨_, rfl, hE, by rw [Dk.read_out (.inl hk)]; rfl⟩
  · refine E.regionP rfl ?_; refine R.move ?_; refine R.lss (b := false) rfl rfl (decide_eq_false (by omega)) ?_; refine R.move ?_; refine R.gT rfl rfl ?_; refine R.move ?_; refine R.gT rfl rfl ?_; refine R.move ?_; refine R.gT rfl rfl ?_; refine R.callE1 ent43 (places_ _ hD) rfl nofun ?_; rintro v11 w3 hx3 rfl; replace hD := hD.ext hx3; replace hB4 := hB4.ext hx3; replace hE := hE.ext hx3; refine R.gT rfl rfl ?_; refine R.mulN (m := 2) (n := d.n) rfl rfl (by omega) ?_; refine R.gT rfl rfl ?_; refine R.geq (b := true) rfl rfl (decide_eq_true (by omega)) ?_; refine R.pickF rfl ?_; refine R.move ?_; (iterate 7 refine R.gF rfl rfl rfl ?_); refine R.pickT rfl ?_; refine R.nil ?_; refine E.condT rfl ?_; refine E.seq ?_; refine E.regionP rfl ?_; refine R.build build27_0 rfl ?_; refine R.storeA t27 hB4 rfl rfl (blkV_size zeroB_ok.1) (blkV_size zeroB_ok.1) blkV_ones nofun ?_; intro w3 hU3 hs3 hN3; replace hD := hD.upN hU3 hn4; replace hE := hE.own hU3 hb4; replace hB4 := hN3; refine R.assign ?_; refine R.nil ?_; refine E.ret ?_; exact retA1 (.bool false) t27 hB4 (blkV_size zeroB_ok.1) rfl rfl rfl ⟨_, rfl, hE, by rw [Dk.read_out (.inr hk)]; rfl⟩
end Go.Proofs.Ytlplogplicgfiaa

namespace Go.Proofs.Ytlplogplicgfiaa
open Go Go.RowKit
def Fresh (w : World) (v : Value) : Prop := ∀ b, vblk v = some b → w.heap.size ≤ b
theorem Fresh.nil (w : World) : Fresh w (.slice none 0 0) := fun b hb => by simp [vblk] at hb
theorem Fresh.mono {w w' : World} {v : Value} (h : Fresh w' v) (hs : w.heap.size ≤ w'.heap.size) : Fresh w v := fun b hb => Nat.le_trans hs (h b hb)
theorem Upd.app {X : Nat → Prop} {w0 w w' : World} {v : Value} (h : Upd X w0 w) (u : Upd (fun b => vblk v = some b) w w') (hf : Fresh w0 v) : Upd X w0 w' := h.trans u fun c hc hx => by
  have := hf c hx; omega
theorem Fresh.app {X : Nat → Prop} {w0 w w' : World} {v v' : Value} {n : Nat} (hE : Upd X w0 w) (hf : Fresh w0 v) (hd : (vblk v' = vblk v ∧ n ≤ vcap v ∧ vcap v' = vcap v) ∨ (∃ b, vblk v' = some b ∧ w.heap.size ≤ b ∧ Ext w w')) : Fresh w0 v' := by
  intro b hb; rcases hd with ⟨h1, _⟩ | ⟨b', h1, h2, _⟩
  · exact hf b (h1 ▸ hb)
  · rw [h1] at hb; have := hE.size; simp at hb; omega
theorem Sl.blk {w : World} {ty : TypeId} {k n b : Nat} {v : Value} {cs : List Value} (h : Sl w ty k v n cs) (e : vblk v = some b) : ∃ cur, Blk w b ty cur := by
  obtain ⟨a, cap, rfl, _, _, h | ⟨b', off, cur, rfl, hb, _⟩⟩ := h
  · obtain ⟨rfl, _⟩ := h; simp [vblk] at e
  · simp [vblk] at e; subst e; exact ⟨cur, hb⟩
theorem Sl.blk_lt {w : World} {ty : TypeId} {k n b : Nat} {v : Value} {cs : List Value} (h : Sl w ty k v n cs) (e : vblk v = some b) : b < w.heap.size := by
  obtain ⟨a, cap, rfl, _, _, h | ⟨b', off, cur, rfl, hb, _⟩⟩ := h
  · obtain ⟨rfl, _⟩ := h; simp [vblk] at e
  · simp [vblk] at e; subst e; exact hb.lt
theorem Sl.upS {w w' : World} {ty ty' : TypeId} {k k' : Nat} {v x : Value} {n m : Nat} {cs ds : List Value} (h : Sl w ty k v n cs) (u : Upd (fun b => vblk x = some b) w w') (hx : Sl w ty' k' x m ds) (hne : ty ≠ ty') : Sl w' ty k v n cs := by
  obtain ⟨a, cap, rfl, hc, hl, h⟩ := h; refine ⟨a, cap, rfl, hc, hl, ?_⟩; rcases h with h | ⟨b, off, cur, rfl, hb, h⟩
  · exact .inl h
  · refine .inr ⟨b, off, cur, rfl, hb.up u (fun e => ?_), h⟩; obtain ⟨a', cap', rfl, _, _, h'⟩ := hx; rcases h' with ⟨rfl, _⟩ | ⟨b', off', cur', rfl, hb', _⟩
    · simp [vblk] at e
    · simp [vblk] at e; subst e; exact hne (hb.inj hb').2
theorem Blk.upS {w w' : World} {ty ty' : TypeId} {b k' : Nat} {x : Value} {m : Nat} {cs : Array Value} {ds : List Value} (h : Blk w b ty cs) (u : Upd (fun b => vblk x = some b) w w') (hx : Sl w ty' k' x m ds) (hne : ty ≠ ty') : Blk w' b ty cs := by
  refine h.up u (fun e => ?_); obtain ⟨a', cap', rfl, _, _, h'⟩ := hx; rcases h' with ⟨rfl, _⟩ | ⟨b', off', cur', rfl, hb', _⟩
  · simp [vblk] at e
  · simp [vblk] at e; subst e; exact hne (h.inj hb').2
theorem Blk.ne_vblk {w : World} {b k' m : Nat} {ty ty' : TypeId} {cs : Array Value} {x : Value} {ds : List Value} (h : Blk w b ty cs) (hx : Sl w ty' k' x m ds) (hne : ty ≠ ty') : vblk x ≠ some b := by
  intro e; obtain ⟨a', cap', rfl, _, _, h'⟩ := hx; rcases h' with ⟨rfl, _⟩ | ⟨b', off', cur', rfl, hb', _⟩
  · simp [vblk] at e
  · simp [vblk] at e; subst e; exact hne (h.inj hb').2
theorem R.eqNil {P : Program} {ops : Array Oper} {S : Bool → Nat → Prop} {dr : Bool} {B : List Nat} {F : Env → World → Prop} {rest : List Oper} {e : Env} {w w0 : World} {d : Tmp} {ty : TypeId} {pos : String} {aft : Array Edge} {t t' el : TypeId} {x : Operand} {k n : Nat} {cs : List Value} {v : Value}
    (hu : P.underlying t = some (.slice el)) (hr : Row w0 k v n cs) (hx : ev e x = v) (h : ∀ b : Bool, (b = true → v = .slice none n (vcap v) ∧ cs = []) → (b = false → (vblk v).isSome = true) → wpR P ops S dr (kind B) F rest (upd e d (.bool b)) w) :
    wpR P ops S dr (kind B) F (⟨some d, .binOp .eql t x (.const (.slice none 0 0)) t', ty, pos, aft, none⟩ :: rest) e w := by
  obtain ⟨a, c, rfl, hc, hl, hj⟩ := hr; refine R.quiet (.bool a.isNone) rfl (fun w' _ => ?_) (h _ (fun ha => ?_) (fun ha => ?_))
  · have h1 := run_equal_slice_nil (P := P) w' t el a n c hu; have h2 : ∀ w : World, (eqGuard .eql t x (.const (.slice none 0 0)) (.slice a n c) (.slice none 0 0)).run P w = .ok () w := fun w => by unfold eqGuard; simp
    have h3 : ev e (.const (.slice none 0 0)) = .slice none 0 0 := rfl; simp [execOp, hx, h3, h2, binOp, h1]
  · simp at ha; subst ha; refine ⟨rfl, ?_⟩
    cases cs with
    | nil => rfl
    | cons y ys => obtain ⟨p, hp, _⟩ := hj 0 (by simp); cases hp
  · cases a with
    | none => simp at ha
    | some p => rfl
theorem E.cutM {md : Mode} {P : Program} {N : Nat} {Q : Exit → Env → World → Prop} {next : Env → World → Prop} {e : Env} {w : World} {c : Code} (M : Env → World → Prop) (h : wpE md P N c (E.thn M Q) e w) (h2 : ∀ e w, M e w → next e w) : wpE md P N c (E.thn next Q) e w :=
  E.mono (fun x e w q => by cases x <;> first | exact h2 _ _ q | exact q) h
end Go.Proofs.Ytlplogplicgfiaa
