import Derived.Test.YtlplogplicgfiaaZ5Mem2
namespace Go.Proofs.Ytlplogplicgfiaa
open Go Go.RowKit
theorem blocksC_set : ∀ {bl : List (List Nat)}, (∀ b ∈ bl, BlockP b) → ∀ {i : Nat}, i < bl.length → ∀ (b : List Nat), blocksC (bl.set i b) = (blocksC bl).take (i * 64) ++ (u8s b ++ (blocksC bl).drop ((i + 1) * 64))
  | [], _, i, hi, _ => by simp at hi
  | c :: bl, h, 0, _, b => by
    have h1 := (h c List.mem_cons_self).1
    rw [List.set_cons_zero, blocksC_cons, blocksC_cons]
    have e : (u8s c ++ blocksC bl).drop ((0 + 1) * 64) = blocksC bl := by rw [show (0 + 1) * 64 = (u8s c).length by simp [h1], List.drop_left]
    rw [e]; simp
  | c :: bl, h, i + 1, hi, b => by
    have h1 := (h c List.mem_cons_self).1
    have ih := blocksC_set (fun d hd => h d (List.mem_cons_of_mem _ hd)) (i := i) (by simpa using hi) b
    rw [List.set_cons_succ, blocksC_cons, blocksC_cons, ih]
    have hl : (u8s c).length = 64 := by simp [h1]
    have e1 : (u8s c ++ blocksC bl).take ((i + 1) * 64) = u8s c ++ (blocksC bl).take (i * 64) := by
      rw [List.take_append, hl, List.take_of_length_le (by omega), show (i + 1) * 64 - 64 = i * 64 by omega]
    have e2 : (u8s c ++ blocksC bl).drop ((i + 1 + 1) * 64) = (blocksC bl).drop ((i + 1) * 64) := by
      rw [List.drop_append, hl, List.drop_of_length_le (by omega), show (i + 1 + 1) * 64 - 64 = (i + 1) * 64 by omega]; rfl
    rw [e1, e2, List.append_assoc]
theorem R.stB {P : Program} {ops : Array Oper} {S : Bool → Nat → Prop} {dr : Bool} {B : List Nat} {F : Env → World → Prop} {rest : List Oper} {e : Env} {w : World} {od : Option Tmp} {ty : TypeId} {pos : String} {aft : Array Edge} {x y : Operand} {t tb : TypeId} {by_ i : Nat} {z v : Value} {bl : List (List Nat)} {b : List Nat}
    (hk : Ty P t 64 by_ true z) (hs : Sl w tb 64 v bl.length (blocksC bl)) (hok : ∀ b ∈ bl, BlockP b) (hx : ev e x = elemPtr v (i * 64)) (hy : ev e y = .agg (blkV b)) (hb : b.length = 64) (hi : i < bl.length) (hag : dr = true → ∀ b, vblk v = some b → ¬ S false b)
    (h : ∀ w', Upd (fun b => vblk v = some b) w w' → w'.heap.size = w.heap.size → Sl w' tb 64 v bl.length (blocksC (bl.set i b)) → wpR P ops S dr (kind B) F rest (updo e od undef) w') : wpR P ops S dr (kind B) F (⟨od, .store t x y, ty, pos, aft, none⟩ :: rest) e w := by
  obtain ⟨a, c, rfl, hc, hl, hq⟩ := hs
  have hbl := blocksC_len hok
  rcases hq with ⟨_, rfl⟩ | ⟨q, off, cur, rfl, hB, ho, hq⟩
  · omega
  · simp only [elemPtr, add_none] at hx
    have hul : (u8s b).length = 64 := by simp [hb]
    have hi64 : (i + 1) * 64 ≤ bl.length * 64 := Nat.mul_le_mul_right _ (by omega)
    have hc64 : bl.length * 64 ≤ c * 64 := Nat.mul_le_mul_right _ hc
    have hfit : off + i * 64 + (u8s b).length ≤ cur.size := by rw [hul]; omega
    have hcells : (Value.agg (blkV b)).cells.toList = u8s b := by simp [Value.cells]
    refine R.storeG (vs := u8s b) hk hB hx hy hcells hul u8s_one (by omega) (fun hd => hag hd q rfl) (fun w' hU hs hB' => h w' (hU.mono (fun x _ hx => by simp [vblk]; exact hx.symm)) hs ⟨_, _, rfl, hc, ?_, .inr ⟨q, off, _, rfl, hB', by rw [put_size hfit]; exact ho, fun j hj => ?_⟩⟩)
    · rw [blocksC_set hok hi]; simp [hbl, hb]; omega
    · have hlen : (blocksC (bl.set i b)).length = bl.length * 64 := by rw [blocksC_set hok hi]; simp [hbl, hb]; omega
      rw [hlen] at hj
      rw [blocksC_set hok hi, put_get hfit]
      by_cases h1 : j < i * 64
      · rw [if_pos (by omega), hq j (by omega), List.getElem?_append_left (by simp; omega), List.getElem?_take, if_pos h1]
      · have htl : ((blocksC bl).take (i * 64)).length = i * 64 := by simp; omega
        rw [if_neg (by omega), List.getElem?_append_right (by omega), htl]
        by_cases h2 : j < i * 64 + 64
        · rw [if_pos (by omega), List.getElem?_append_left (by omega)]
          congr 1; omega
        · rw [if_neg (by omega), List.getElem?_append_right (by omega), hul, List.getElem?_drop, hq j (by omega)]
          congr 1; omega
theorem bools_set (xs : List Bool) (i : Nat) (b : Bool) : (bools xs).set i (.bool b) = bools (xs.set i b) := by simp [bools, List.map_set]
def Dk.write (d : Dk) (i : Int) (b : List Nat) : Dk × Bool :=
  if 0 ≤ i ∧ i < 2 * (d.n : Int) then
    if d.pw = 0 then ({ d with bad := d.bad.set i.toNat (d.bad.getD i.toNat true || d.tr) }, false)
    else ({ bl := d.bl.set i.toNat b, bad := d.bad.set i.toNat false, pw := if 0 < d.pw then d.pw - 1 else d.pw, tr := d.tr }, true)
  else (d, false)
def DB (p : Nat) (vb vd : Value) (x : Nat) : Prop := x = p ∨ vblk vb = some x ∨ vblk vd = some x
section
variable {d : Dk} {k : Nat} {b : List Nat}
theorem Dk.write_out {i : Int} (h : i < 0 ∨ 2 * (d.n : Int) ≤ i) : d.write i b = (d, false) := by unfold Dk.write; rw [if_neg (by omega)]
theorem Dk.write_off (h : (k : Int) < 2 * (d.n : Int)) (hp : d.pw = 0) (hk : k < d.bad.length) : d.write k b = ({ d with bad := d.bad.set k (d.bad[k] || d.tr) }, false) := by
  unfold Dk.write; rw [if_pos ⟨by omega, h⟩, if_pos hp, Int.toNat_natCast, show d.bad.getD k true = d.bad[k] by simp [hk]]
theorem Dk.write_on (h : (k : Int) < 2 * (d.n : Int)) (hp : d.pw ≠ 0) : d.write k b = ({ bl := d.bl.set k b, bad := d.bad.set k false, pw := if 0 < d.pw then d.pw - 1 else d.pw, tr := d.tr }, true) := by
  unfold Dk.write; rw [if_pos ⟨by omega, h⟩, if_neg hp, Int.toNat_natCast]
theorem ok_set {bl : List (List Nat)} (h : ∀ b ∈ bl, BlockP b) (hb : BlockP b) : ∀ c ∈ bl.set k b, BlockP c := fun c hc => by
  rcases List.mem_or_eq_of_mem_set hc with h1 | rfl
  · exact h c h1
  · exact hb
end
theorem write_ (w : World) {b900 : Nat} {vb vd : Value} {d : Dk} {i : Int} {b : List Nat} (hD : DM w b900 vb vd d) (hb : BlockP b) (hpb : d.pw ≤ 9223372036854775807) :
    Calls Try.prog 17 #[.pointer (some ⟨b900, 0, none⟩), .int .i64 i, .agg (blkV b)] w (Ret fun r w' => Upd (DB b900 vb vd) w w' ∧ DM w' b900 vb vd (d.write i b).1 ∧ r = .bool (d.write i b).2) := by
  have hnl := d.n_le
  have hD0 := hD
  refine calls_E (args := [.pointer (some ⟨b900, 0, none⟩), .int .i64 i, .agg (blkV b)]) 68 Try.func17 rfl rfl (by simp) ?_
  have hE : Upd (DB b900 vb vd) w w := Upd.refl w
  refine E.seq ?_
  refine E.regionP rfl ?_
  refine R.box rfl nofun ?_
  intro b5 w1 hb5 hx5 hB5
  have hn5 := hD.new hb5
  have hl5 := hb5
  replace hb5 := Nat.le_trans hE.size hb5
  replace hD := hD.ext hx5
  replace hE := hE.ext hx5
  replace hB5 : Blk w1 b5 27 (blkV b) := hB5
  refine R.assign ?_
  refine R.nil ?_
  refine E.seq ?_
  refine E.block ?_
  refine E.seq ?_
  have hk : i < 0 ∨ 2 * (d.n : Int) ≤ i ∨ ∃ k : Nat, i = k ∧ (k : Int) < 2 * (d.n : Int) := by
    rcases (show i < 0 ∨ 2 * (d.n : Int) ≤ i ∨ (0 ≤ i ∧ i < 2 * (d.n : Int)) by omega) with h | h | h
    · exact .inl h
    · exact .inr (.inl h)
    · exact .inr (.inr ⟨i.toNat, by omega, by omega⟩)
  rcases hk with hk | hk | ⟨k, rfl, hk⟩
  rotate_left 2
  obtain ⟨q1, q2, q3, q4⟩ := Dk.n_pos (d := d) (by omega)
  have hkb : k < d.bad.length := by omega
  have hkl : k < d.bl.length := by omega
  have hpk : d.pw = 0 ∨ 0 < d.pw ∨ d.pw < 0 := by omega
  rcases hpk with hp | hp | hp
  have hbk2 : d.bad[k] = true ∨ d.bad[k] = false := by cases d.bad[k] <;> simp
  rcases hbk2 with hbk | hbk
  · refine E.regionP rfl ?_
    refine R.move ?_
    refine R.lss (b := false) rfl rfl (decide_eq_false (by omega)) ?_
    refine R.move ?_
    refine R.gT rfl rfl ?_
    refine R.move ?_
    refine R.gT rfl rfl ?_
    refine R.move ?_
    refine R.gT rfl rfl ?_
    refine R.callE1 ent43 (places_ _ hD) rfl nofun ?_
    rintro v13 w1 hx1 rfl
    replace hD := hD.ext hx1
    replace hB5 := hB5.ext hx1
    replace hE := hE.ext hx1
    refine R.gT rfl rfl ?_
    refine R.mulN (m := 2) (n := d.n) rfl rfl (by omega) ?_
    refine R.gT rfl rfl ?_
    refine R.geq (b := false) rfl rfl (decide_eq_false (by omega)) ?_
    refine R.pickF rfl ?_
    refine R.assign ?_
    refine R.nil ?_
    refine E.condF rfl ?_
    refine E.seq ?_
    refine E.regionP rfl ?_
    refine R.move ?_
    refine R.nilCheck rfl ?_
    refine R.fld fa25_2 rfl ?_
    refine R.loadB t3 hD.blk rfl rfl rfl trivial ?_
    refine R.eql (b := true) rfl rfl (decide_eq_true (by omega)) ?_
    refine R.assign ?_
    refine R.nil ?_
    refine E.condT rfl ?_
    refine E.seq ?_
    refine E.regionW (fun c x => x < w1.heap.size ∧ (c = false → vblk vd ≠ some x)) [34]  mixed rfl (by kernel_rfl) ?_
    intro w2 hx2 hh2
    replace hD := hD.ext hx2
    replace hB5 := hB5.ext hx2
    replace hE := hE.ext hx2
    have hEs : Ext w2 w2 := Upd.refl _
    have hS0 := hx2.size
    have hSB : ∀ b, b < w2.heap.size → b < w1.heap.size ∧ (true = false → (fun x => vblk vd ≠ some x) b) := fun b hb => ⟨by rw [hh2] at hb; exact hb, nofun⟩
    have hSA : ∀ b, b < w2.heap.size → (fun x => vblk vd ≠ some x) b → b < w1.heap.size ∧ (false = false → (fun x => vblk vd ≠ some x) b) := fun b hb h => ⟨by rw [hh2] at hb; exact hb, fun _ => h⟩
    have hDs := hD
    have hD.blks := hD.blk
    have hB5s := hB5
    refine R.move ?_
    refine R.nilCheck rfl ?_
    refine R.fld fa25_1 rfl ?_
    refine R.loadB t23 hD.blk rfl rfl rfl (hSA b900 hD.blks.lt (hD.blk.ne_vblk hD.bds (by decide))) ?_
    refine R.move ?_
    refine R.move ?_
    refine R.nilCheck rfl ?_
    refine R.fld fa25_1 rfl ?_
    refine R.loadB t23 hD.blk rfl rfl rfl (hSA b900 hD.blks.lt (hD.blk.ne_vblk hD.bds (by decide))) ?_
    refine R.move ?_
    refine R.ix (m := k) Try.underlying23 t4 (by decide) hD.bds.row rfl rfl hkb ?_
    refine R.ld (j := k) (u := .bool true) t4 hD.bds.row rfl (by rw [bool_at hkb, hbk]) rfl (fun x hx => hSB x (hD.bds.blk_lt hx)) ?_
    refine R.move ?_
    refine R.gF rfl rfl rfl ?_
    refine R.gF rfl rfl rfl ?_
    refine R.gF rfl rfl rfl ?_
    refine R.gF rfl rfl rfl ?_
    refine R.pickT rfl ?_
    refine R.ix (m := k) Try.underlying23 t4 (by decide) hD.bds.row rfl rfl hkb ?_
    refine R.stE (j := k) (u := .bool true) t4 hD.bds rfl rfl rfl hkb (fun _ x hx h => h.2 rfl hx) ?_
    intro w41 hU41 hs41 hN41
    rw [bools_set] at hN41
    have hQb := hD.blk.upS hU41 hD.bds (by decide)
    have hQl := hD.bls.upS hU41 hD.bds (by decide)
    replace hE := hE.trans hU41 (fun x _ h => .inr (.inr h))
    replace hD : DM w41 b900 vb vd { d with bad := d.bad.set k true } := ⟨hQb, hQl, by rw [List.length_set]; exact hN41, hD.ok⟩
    clear hQb hQl hN41
    refine R.nil ?_
    refine E.seq ?_
    refine E.regionP rfl ?_
    refine R.assign ?_
    refine R.nil ?_
    refine E.ret ?_
    exact ret1 (.bool false) rfl rfl ⟨_, rfl, hE, by rw [Dk.write_off hk hp hkb, hbk]; exact hD, by rw [Dk.write_off hk hp hkb]⟩
  · refine E.regionP rfl ?_
    refine R.move ?_
    refine R.lss (b := false) rfl rfl (decide_eq_false (by omega)) ?_
    refine R.move ?_
    refine R.gT rfl rfl ?_
    refine R.move ?_
    refine R.gT rfl rfl ?_
    refine R.move ?_
    refine R.gT rfl rfl ?_
    refine R.callE1 ent43 (places_ _ hD) rfl nofun ?_
    rintro v13 w3 hx3 rfl
    replace hD := hD.ext hx3
    replace hB5 := hB5.ext hx3
    replace hE := hE.ext hx3
    refine R.gT rfl rfl ?_
    refine R.mulN (m := 2) (n := d.n) rfl rfl (by omega) ?_
    refine R.gT rfl rfl ?_
    refine R.geq (b := false) rfl rfl (decide_eq_false (by omega)) ?_
    refine R.pickF rfl ?_
    refine R.assign ?_
    refine R.nil ?_
    refine E.condF rfl ?_
    refine E.seq ?_
    refine E.regionP rfl ?_
    refine R.move ?_
    refine R.nilCheck rfl ?_
    refine R.fld fa25_2 rfl ?_
    refine R.loadB t3 hD.blk rfl rfl rfl trivial ?_
    refine R.eql (b := true) rfl rfl (decide_eq_true (by omega)) ?_
    refine R.assign ?_
    refine R.nil ?_
    refine E.condT rfl ?_
    refine E.seq ?_
    refine E.regionW (fun c x => x < w3.heap.size ∧ (c = false → vblk vd ≠ some x)) [34]  mixed rfl (by kernel_rfl) ?_
    intro w4 hx4 hh4
    replace hD := hD.ext hx4
    replace hB5 := hB5.ext hx4
    replace hE := hE.ext hx4
    have hEs : Ext w4 w4 := Upd.refl _
    have hS0 := hx4.size
    have hSB : ∀ b, b < w4.heap.size → b < w3.heap.size ∧ (true = false → (fun x => vblk vd ≠ some x) b) := fun b hb => ⟨by rw [hh4] at hb; exact hb, nofun⟩
    have hSA : ∀ b, b < w4.heap.size → (fun x => vblk vd ≠ some x) b → b < w3.heap.size ∧ (false = false → (fun x => vblk vd ≠ some x) b) := fun b hb h => ⟨by rw [hh4] at hb; exact hb, fun _ => h⟩
    have hDs := hD
    have hD.blks := hD.blk
    have hB5s := hB5
    refine R.move ?_
    refine R.nilCheck rfl ?_
    refine R.fld fa25_1 rfl ?_
    refine R.loadB t23 hD.blk rfl rfl rfl (hSA b900 hD.blks.lt (hD.blk.ne_vblk hD.bds (by decide))) ?_
    refine R.move ?_
    refine R.move ?_
    refine R.nilCheck rfl ?_
    refine R.fld fa25_1 rfl ?_
    refine R.loadB t23 hD.blk rfl rfl rfl (hSA b900 hD.blks.lt (hD.blk.ne_vblk hD.bds (by decide))) ?_
    refine R.move ?_
    refine R.ix (m := k) Try.underlying23 t4 (by decide) hD.bds.row rfl rfl hkb ?_
    refine R.ld (j := k) (u := .bool false) t4 hD.bds.row rfl (by rw [bool_at hkb, hbk]) rfl (fun x hx => hSB x (hD.bds.blk_lt hx)) ?_
    refine R.move ?_
    refine R.gT rfl rfl ?_
    refine R.move ?_
    refine R.gT rfl rfl ?_
    refine R.nilCheck rfl ?_
    refine R.gT rfl rfl ?_
    refine R.fld fa25_3 rfl ?_
    refine R.gT rfl rfl ?_
    refine R.loadB t4 hD.blk rfl rfl rfl (hSA b900 hD.blks.lt (hD.blk.ne_vblk hD.bds (by decide))) ?_
    refine R.pickF rfl ?_
    refine R.ix (m := k) Try.underlying23 t4 (by decide) hD.bds.row rfl rfl hkb ?_
    refine R.stE (j := k) (u := .bool d.tr) t4 hD.bds rfl rfl rfl hkb (fun _ x hx h => h.2 rfl hx) ?_
    intro w41 hU41 hs41 hN41
    rw [bools_set] at hN41
    have hQb := hD.blk.upS hU41 hD.bds (by decide)
    have hQl := hD.bls.upS hU41 hD.bds (by decide)
    replace hE := hE.trans hU41 (fun x _ h => .inr (.inr h))
    replace hD : DM w41 b900 vb vd { d with bad := d.bad.set k d.tr } := ⟨hQb, hQl, by rw [List.length_set]; exact hN41, hD.ok⟩
    clear hQb hQl hN41
    refine R.nil ?_
    refine E.seq ?_
    refine E.regionP rfl ?_
    refine R.assign ?_
    refine R.nil ?_
    refine E.ret ?_
    exact ret1 (.bool false) rfl rfl ⟨_, rfl, hE, by rw [Dk.write_off hk hp hkb, hbk]; exact hD, by rw [Dk.write_off hk hp hkb]⟩
  · have hpw : d.pw ≠ 0 := by omega
    refine E.regionP rfl ?_
    refine R.move ?_
    refine R.lss (b := false) rfl rfl (decide_eq_false (by omega)) ?_
    refine R.move ?_
    refine R.gT rfl rfl ?_
    refine R.move ?_
    refine R.gT rfl rfl ?_
    refine R.move ?_
    refine R.gT rfl rfl ?_
    refine R.callE1 ent43 (places_ _ hD) rfl nofun ?_
    rintro v13 w5 hx5 rfl
    replace hD := hD.ext hx5
    replace hB5 := hB5.ext hx5
    replace hE := hE.ext hx5
    refine R.gT rfl rfl ?_
    refine R.mulN (m := 2) (n := d.n) rfl rfl (by omega) ?_
    refine R.gT rfl rfl ?_
    refine R.geq (b := false) rfl rfl (decide_eq_false (by omega)) ?_
    refine R.pickF rfl ?_
    refine R.assign ?_
    refine R.nil ?_
    refine E.condF rfl ?_
    refine E.seq ?_
    refine E.regionP rfl ?_
    refine R.move ?_
    refine R.nilCheck rfl ?_
    refine R.fld fa25_2 rfl ?_
    refine R.loadB t3 hD.blk rfl rfl rfl trivial ?_
    refine R.eql (b := false) rfl rfl (decide_eq_false (by omega)) ?_
    refine R.assign ?_
    refine R.nil ?_
    refine E.condF rfl ?_
    refine E.seq ?_
    refine E.regionP rfl ?_
    refine R.move ?_
    refine R.nilCheck rfl ?_
    refine R.fld fa25_2 rfl ?_
    refine R.loadB t3 hD.blk rfl rfl rfl trivial ?_
    refine R.gtr (b := true) rfl rfl (decide_eq_true (by omega)) ?_
    refine R.assign ?_
    refine R.nil ?_
    refine E.condT rfl ?_
    refine E.regionP rfl ?_
    refine R.move ?_
    refine R.nilCheck rfl ?_
    refine R.fld fa25_2 rfl ?_
    refine R.loadB t3 hD.blk rfl rfl rfl trivial ?_
    refine R.sub (m := d.pw) (n := 1) rfl rfl (by omega) (by omega) ?_
    refine R.nilCheck rfl ?_
    refine R.fld fa25_2 rfl ?_
    refine R.store t3 hD.blk rfl rfl rfl (by simp) nofun ?_
    intro w54 hU54 hs54 hN54
    replace hB5 := hB5.upT hU54 hD.blk (by decide)
    have hQl := hD.bls.upT hU54 hD.blk (by decide)
    have hQd := hD.bds.upT hU54 hD.blk (by decide)
    replace hE := hE.trans hU54 (fun x _ h => .inl h)
    replace hD : DM w54 b900 vb vd { d with pw := d.pw - 1 } := ⟨hN54, hQl, hQd, hD.ok⟩
    clear hQl hQd hN54
    refine R.nil ?_
    refine E.seq ?_
    refine E.regionW (fun c x => x < w54.heap.size ∧ (c = false → vblk vb ≠ some x ∧ vblk vd ≠ some x)) []  mixed rfl (by kernel_rfl) ?_
    intro w6 hx6 hh6
    replace hD := hD.ext hx6
    replace hB5 := hB5.ext hx6
    replace hE := hE.ext hx6
    have hEs : Ext w6 w6 := Upd.refl _
    have hS0 := hx6.size
    have hSB : ∀ b, b < w6.heap.size → b < w54.heap.size ∧ (true = false → (fun x => vblk vb ≠ some x ∧ vblk vd ≠ some x) b) := fun b hb => ⟨by rw [hh6] at hb; exact hb, nofun⟩
    have hSA : ∀ b, b < w6.heap.size → (fun x => vblk vb ≠ some x ∧ vblk vd ≠ some x) b → b < w54.heap.size ∧ (false = false → (fun x => vblk vb ≠ some x ∧ vblk vd ≠ some x) b) := fun b hb h => ⟨by rw [hh6] at hb; exact hb, fun _ => h⟩
    have hDs := hD
    have hD.blks := hD.blk
    have hB5s := hB5
    refine R.move ?_
    refine R.nilCheck rfl ?_
    refine R.fld fa25_0 rfl ?_
    refine R.loadB t22 hD.blk rfl rfl rfl (hSA b900 hD.blks.lt (⟨hD.blk.ne_vblk hD.bls (by decide), hD.blk.ne_vblk hD.bds (by decide)⟩)) ?_
    refine R.move ?_
    refine R.move ?_
    refine R.nilCheck rfl ?_
    refine R.fld fa25_1 rfl ?_
    refine R.loadB t23 hD.blk rfl rfl rfl (hSA b900 hD.blks.lt (⟨hD.blk.ne_vblk hD.bls (by decide), hD.blk.ne_vblk hD.bds (by decide)⟩)) ?_
    refine R.move ?_
    refine R.loadA t27 hB5 rfl (blkV_size hb.1) rfl (hSA b5 hB5s.lt ⟨fun e => hn5 (.inr (.inl e)), fun e => hn5 (.inr (.inr e))⟩) ?_
    refine R.ix (m := k) Try.underlying22 t27 (by decide) hD.bls.row rfl rfl hkl ?_
    have hok2 := ok_set (k := k) hD.ok hb
    refine R.stB (b := b) (i := k) t27 hD.bls hD.ok rfl rfl hb.1 hkl (fun _ x hx h => (h.2 rfl).1 hx) ?_
    intro w81 hU81 hs81 hN81
    have hQb := hD.blk.upS hU81 hD.bls (by decide)
    have hQd := hD.bds.upS hU81 hD.bls (by decide)
    replace hE := hE.trans hU81 (fun x _ h => .inr (.inl h))
    replace hD : DM w81 b900 vb vd { bl := d.bl.set k b, bad := d.bad, pw := d.pw - 1, tr := d.tr } := ⟨hQb, by rw [List.length_set]; exact hN81, hQd, hok2⟩
    clear hQb hQd hN81
    refine R.ix (m := k) Try.underlying23 t4 (by decide) hD.bds.row rfl rfl hkb ?_
    refine R.stE (j := k) (u := .bool false) t4 hD.bds rfl rfl rfl hkb (fun _ x hx h => (h.2 rfl).2 hx) ?_
    intro w82 hU82 hs82 hN82
    rw [bools_set] at hN82
    have hQb := hD.blk.upS hU82 hD.bds (by decide)
    have hQl := hD.bls.upS hU82 hD.bds (by decide)
    replace hE := hE.trans hU82 (fun x _ h => .inr (.inr h))
    replace hD : DM w82 b900 vb vd { bl := d.bl.set k b, bad := d.bad.set k false, pw := d.pw - 1, tr := d.tr } := ⟨hQb, hQl, by rw [List.length_set]; exact hN82, hD.ok⟩
    clear hQb hQl hN82
    refine R.nil ?_
    refine E.seq ?_
    refine E.regionP rfl ?_
    refine R.assign ?_
    refine R.nil ?_
    refine E.ret ?_
    exact ret1 (.bool true) rfl rfl ⟨_, rfl, hE, by rw [Dk.write_on hk hpw, if_pos hp]; exact hD, by rw [Dk.write_on hk hpw]⟩
  · have hpw : d.pw ≠ 0 := by omega
    refine E.regionP rfl ?_
    refine R.move ?_
    refine R.lss (b := false) rfl rfl (decide_eq_false (by omega)) ?_
    refine R.move ?_
    refine R.gT rfl rfl ?_
    refine R.move ?_
    refine R.gT rfl rfl ?_
    refine R.move ?_
    refine R.gT rfl rfl ?_
    refine R.callE1 ent43 (places_ _ hD) rfl nofun ?_
    rintro v13 w7 hx7 rfl
    replace hD := hD.ext hx7
    replace hB5 := hB5.ext hx7
    replace hE := hE.ext hx7
    refine R.gT rfl rfl ?_
    refine R.mulN (m := 2) (n := d.n) rfl rfl (by omega) ?_
    refine R.gT rfl rfl ?_
    refine R.geq (b := false) rfl rfl (decide_eq_false (by omega)) ?_
    refine R.pickF rfl ?_
    refine R.assign ?_
    refine R.nil ?_
    refine E.condF rfl ?_
    refine E.seq ?_
    refine E.regionP rfl ?_
    refine R.move ?_
    refine R.nilCheck rfl ?_
    refine R.fld fa25_2 rfl ?_
    refine R.loadB t3 hD.blk rfl rfl rfl trivial ?_
    refine R.eql (b := false) rfl rfl (decide_eq_false (by omega)) ?_
    refine R.assign ?_
    refine R.nil ?_
    refine E.condF rfl ?_
    refine E.seq ?_
    refine E.regionP rfl ?_
    refine R.move ?_
    refine R.nilCheck rfl ?_
    refine R.fld fa25_2 rfl ?_
    refine R.loadB t3 hD.blk rfl rfl rfl trivial ?_
    refine R.gtr (b := false) rfl rfl (decide_eq_false (by omega)) ?_
    refine R.assign ?_
    refine R.nil ?_
    refine E.condF rfl ?_
    refine E.skip ?_
    refine E.seq ?_
    refine E.regionW (fun c x => x < w7.heap.size ∧ (c = false → vblk vb ≠ some x ∧ vblk vd ≠ some x)) []  mixed rfl (by kernel_rfl) ?_
    intro w8 hx8 hh8
    replace hD := hD.ext hx8
    replace hB5 := hB5.ext hx8
    replace hE := hE.ext hx8
    have hEs : Ext w8 w8 := Upd.refl _
    have hS0 := hx8.size
    have hSB : ∀ b, b < w8.heap.size → b < w7.heap.size ∧ (true = false → (fun x => vblk vb ≠ some x ∧ vblk vd ≠ some x) b) := fun b hb => ⟨by rw [hh8] at hb; exact hb, nofun⟩
    have hSA : ∀ b, b < w8.heap.size → (fun x => vblk vb ≠ some x ∧ vblk vd ≠ some x) b → b < w7.heap.size ∧ (false = false → (fun x => vblk vb ≠ some x ∧ vblk vd ≠ some x) b) := fun b hb h => ⟨by rw [hh8] at hb; exact hb, fun _ => h⟩
    have hDs := hD
    have hD.blks := hD.blk
    have hB5s := hB5
    refine R.move ?_
    refine R.nilCheck rfl ?_
    refine R.fld fa25_0 rfl ?_
    refine R.loadB t22 hD.blk rfl rfl rfl (hSA b900 hD.blks.lt (⟨hD.blk.ne_vblk hD.bls (by decide), hD.blk.ne_vblk hD.bds (by decide)⟩)) ?_
    refine R.move ?_
    refine R.move ?_
    refine R.nilCheck rfl ?_
    refine R.fld fa25_1 rfl ?_
    refine R.loadB t23 hD.blk rfl rfl rfl (hSA b900 hD.blks.lt (⟨hD.blk.ne_vblk hD.bls (by decide), hD.blk.ne_vblk hD.bds (by decide)⟩)) ?_
    refine R.move ?_
    refine R.loadA t27 hB5 rfl (blkV_size hb.1) rfl (hSA b5 hB5s.lt ⟨fun e => hn5 (.inr (.inl e)), fun e => hn5 (.inr (.inr e))⟩) ?_
    refine R.ix (m := k) Try.underlying22 t27 (by decide) hD.bls.row rfl rfl hkl ?_
    have hok2 := ok_set (k := k) hD.ok hb
    refine R.stB (b := b) (i := k) t27 hD.bls hD.ok rfl rfl hb.1 hkl (fun _ x hx h => (h.2 rfl).1 hx) ?_
    intro w81 hU81 hs81 hN81
    have hQb := hD.blk.upS hU81 hD.bls (by decide)
    have hQd := hD.bds.upS hU81 hD.bls (by decide)
    replace hE := hE.trans hU81 (fun x _ h => .inr (.inl h))
    replace hD : DM w81 b900 vb vd { bl := d.bl.set k b, bad := d.bad, pw := d.pw, tr := d.tr } := ⟨hQb, by rw [List.length_set]; exact hN81, hQd, hok2⟩
    clear hQb hQd hN81
    refine R.ix (m := k) Try.underlying23 t4 (by decide) hD.bds.row rfl rfl hkb ?_
    refine R.stE (j := k) (u := .bool false) t4 hD.bds rfl rfl rfl hkb (fun _ x hx h => (h.2 rfl).2 hx) ?_
    intro w82 hU82 hs82 hN82
    rw [bools_set] at hN82
    have hQb := hD.blk.upS hU82 hD.bds (by decide)
    have hQl := hD.bls.upS hU82 hD.bds (by decide)
    replace hE := hE.trans hU82 (fun x _ h => .inr (.inr h))
    replace hD : DM w82 b900 vb vd { bl := d.bl.set k b, bad := d.bad.set k false, pw := d.pw, tr := d.tr } := ⟨hQb, hQl, by rw [List.length_set]; exact hN82, hD.ok⟩
    clear hQb hQl hN82
    refine R.nil ?_
    refine E.seq ?_
    refine E.regionP rfl ?_
    refine R.assign ?_
    refine R.nil ?_
    refine E.ret ?_
    exact ret1 (.bool true) rfl rfl ⟨_, rfl, hE, by rw [Dk.write_on hk hpw, if_neg (by omega)]; exact hD, by rw [Dk.write_on hk hpw]⟩
  · refine E.regionP rfl ?_
    refine R.move ?_
    refine R.lss (b := true) rfl rfl (decide_eq_true (by omega)) ?_
    refine R.move ?_
    refine R.gF rfl rfl rfl ?_
    refine R.gF rfl rfl rfl ?_
    refine R.gF rfl rfl rfl ?_
    refine R.gF rfl rfl rfl ?_
    refine R.gF rfl rfl rfl ?_
    refine R.pickT rfl ?_
    refine R.assign ?_
    refine R.nil ?_
    refine E.condT rfl ?_
    refine E.seq ?_
    refine E.regionP rfl ?_
    refine R.assign ?_
    refine R.nil ?_
    refine E.ret ?_
    exact ret1 (.bool false) rfl rfl ⟨_, rfl, hE, by rw [Dk.write_out (.inl hk)]; exact hD, by rw [Dk.write_out (.inl hk)]⟩
  · refine E.regionP rfl ?_
    refine R.move ?_
    refine R.lss (b := false) rfl rfl (decide_eq_false (by omega)) ?_
    refine R.move ?_
    refine R.gT rfl rfl ?_
    refine R.move ?_
    refine R.gT rfl rfl ?_
    refine R.move ?_
    refine R.gT rfl rfl ?_
    refine R.callE1 ent43 (places_ _ hD) rfl nofun ?_
    rintro v13 w9 hx9 rfl
    replace hD := hD.ext hx9
    replace hB5 := hB5.ext hx9
    replace hE := hE.ext hx9
    refine R.gT rfl rfl ?_
    refine R.mulN (m := 2) (n := d.n) rfl rfl (by omega) ?_
    refine R.gT rfl rfl ?_
    refine R.geq (b := true) rfl rfl (decide_eq_true (by omega)) ?_
    refine R.pickF rfl ?_
    refine R.assign ?_
    refine R.nil ?_
    refine E.condT rfl ?_
    refine E.seq ?_
    refine E.regionP rfl ?_
    refine R.assign ?_
    refine R.nil ?_
    refine E.ret ?_
    exact ret1 (.bool false) rfl rfl ⟨_, rfl, hE, by rw [Dk.write_out (.inr hk)]; exact hD, by rw [Dk.write_out (.inr hk)]⟩
end Go.Proofs.Ytlplogplicgfiaa
