import Derived.Test.YtlplogplicgfiaaZ10KE
namespace Go.Proofs.Ytlplogplicgfiaa
open Go Go.RowKit
theorem RU8.new {w : World} {v : Value} {xs : List Nat} {b : Nat} (h : RU8 w v xs) (hb : w.heap.size ≤ b) : vblk v ≠ some b := fun e => by
  obtain ⟨c, ty, q⟩ := h.blk b e; obtain ⟨h1, _⟩ := Array.getElem?_eq_some_iff.1 q; omega
theorem RU8.upN {w w' : World} {v : Value} {xs : List Nat} {b : Nat} (h : RU8 w v xs) (u : Upd (fun c => c = b) w w') (hb : vblk v ≠ some b) : RU8 w' v xs := h.up u (fun x e e1 => hb (by have e2 : x = b := e1; exact e2 ▸ e))
structure LvM (w : World) (v : Value) (us : List Value) (l : List (List Nat)) : Prop where
  sl : Sl w 55 1 v l.length us
  rows : Rows8 w us l
section
variable {w w' : World} {v : Value} {us : List Value} {l : List (List Nat)}
theorem LvM.up {X : Nat → Prop} (p : LvM w v us l) (u : Upd X w w') (hX : ∀ x, X x → ¬ PB v us x) : LvM w' v us l := ⟨p.sl.up u (fun b hb e => hX b e (.inl hb)), p.rows.up u (fun x e q => hX x e (.inr q))⟩
theorem LvM.ext (p : LvM w v us l) (u : Ext w w') : LvM w' v us l := p.up u (fun _ e => e.elim)
theorem LvM.pb (p : LvM w v us l) {x : Nat} (hx : PB v us x) : ∃ ty cs, Blk w x ty cs ∧ (ty = 55 ∨ ty = 5) := by
  rcases hx with hx | hx
  · obtain ⟨c, q⟩ := p.sl.blk hx; exact ⟨_, _, q, .inl rfl⟩
  · obtain ⟨c, q⟩ := p.rows.ub hx; exact ⟨_, _, q, .inr rfl⟩
theorem LvM.new (p : LvM w v us l) {b : Nat} (hb : w.heap.size ≤ b) : ¬ PB v us b := fun e => by obtain ⟨ty, c, q, _⟩ := p.pb e; have := q.lt; omega
theorem LvM.notT (p : LvM w v us l) {b : Nat} {ty : TypeId} {cs : Array Value} (hB : Blk w b ty cs) (hne : 55 ≠ ty ∧ 5 ≠ ty) : ¬ PB v us b := fun e => by
  obtain ⟨ty', c, q, h1⟩ := p.pb e
  have h2 := (q.inj hB).2
  rcases h1 with rfl | rfl
  · exact hne.1 h2
  · exact hne.2 h2
theorem LvM.upN {b : Nat} (p : LvM w v us l) (u : Upd (one b) w w') (hb : ¬ PB v us b) : LvM w' v us l := p.up u (fun x e => by have e1 : x = b := e; rw [e1]; exact hb)
theorem LvM.upT {b : Nat} {ty : TypeId} {cs : Array Value} (p : LvM w v us l) (u : Upd (one b) w w') (hB : Blk w b ty cs) (hne : 55 ≠ ty ∧ 5 ≠ ty) : LvM w' v us l := p.upN u (p.notT hB hne)
theorem LvM.upS {x : Value} {ty' k' m : Nat} {ds : List Value} (p : LvM w v us l) (u : Upd (fun b => vblk x = some b) w w') (hx : Sl w ty' k' x m ds) (hne : 55 ≠ ty' ∧ 5 ≠ ty') : LvM w' v us l := p.up u (fun b e => by obtain ⟨c, q⟩ := hx.blk e; exact p.notT q hne)
theorem LvM.upD {p : Nat} {vb vd : Value} {d : Dk} (h : LvM w v us l) (u : Upd (DB p vb vd) w w') (hD : DM w p vb vd d) (_ : True) : LvM w' v us l := h.up u (fun b e => by
  rcases e with rfl | e | e
  · exact h.notT hD.blk (by decide)
  · obtain ⟨c, q⟩ := hD.bls.blk e; exact h.notT q (by decide)
  · obtain ⟨c, q⟩ := hD.bds.blk e; exact h.notT q (by decide))
theorem LvM.upA {pj p pd : Nat} {vb vd vl : Value} {us' : List Value} {j : Jn} {d : Dk} (h : LvM w v us l) (u : Upd (AB pj p vb vd) w w') (hD : DM w p vb vd d) (hJ : JM w pj pd vl us' j) (_ : True) : LvM w' v us l := h.up u (fun b e => by
  rcases e with rfl | rfl | e | e
  · exact h.notT hJ.blk (by decide)
  · exact h.notT hD.blk (by decide)
  · obtain ⟨c, q⟩ := hD.bls.blk e; exact h.notT q (by decide)
  · obtain ⟨c, q⟩ := hD.bds.blk e; exact h.notT q (by decide))
theorem lt_set {xs : List Nat} {i v : Nat} (h : ∀ x ∈ xs, x < 256) (hv : v < 256) : ∀ x ∈ xs.set i v, x < 256 := fun x hx => by
  rcases List.mem_or_eq_of_mem_set hx with h1 | h1
  · exact h x h1
  · rw [h1]; exact hv
theorem LvM.nil : LvM w (.slice none 0 0) [] [] := ⟨Sl.nil _ _ _, Rows8.nil⟩
theorem LvM.cell (p : LvM w v us l) {i : Nat} (hi : i < l.length) : us[i * 1 + 0]? = some (us.getD i undef) := by
  have := p.rows.len
  rw [List.getD_eq_getElem?_getD, Nat.mul_one, Nat.add_zero, List.getElem?_eq_getElem (by omega)]; rfl
end
theorem record_ (w : World) {b902 m c : Nat} {x0 x1 x2 x3 x4 x5 x6 : Value} (hB902 : Blk w b902 69 #[x0, x1, x2, x3, x4, x5, x6, .int .i64 (c : Nat)]) (hm : m ≤ 100000) (hc : c ≤ 1000000) :
    Calls Try.prog 49 #[.pointer (some ⟨b902, 0, none⟩), .int .i64 (m : Nat)] w (Ret fun r w' => Upd (one b902) w w' ∧ Blk w' b902 69 #[x0, x1, x2, x3, x4, x5, x6, .int .i64 ((c + 1 : Nat) : Int)] ∧ ∃ xs, xs.length = m ∧ (∀ x ∈ xs, x < 256) ∧ SU8s w' r xs ∧ Fresh w r) := by
  refine calls_E (args := [.pointer (some ⟨b902, 0, none⟩), .int .i64 ((m : Nat) : Int)]) 37 Try.func49 rfl rfl (by simp) ?_
  have hE : Upd (one b902) w w := Upd.refl w
  refine E.seq ?_
  refine E.regionP rfl ?_
  refine R.assign ?_
  refine R.nil ?_
  refine E.seq ?_
  refine E.regionP rfl ?_
  refine R.move ?_
  refine R.nilCheck rfl ?_
  refine R.fld fa69_7 rfl ?_
  refine R.loadB t3 hB902 rfl rfl rfl trivial ?_
  refine R.addN (m := c) (n := 1) rfl rfl (by omega) ?_
  refine R.nilCheck rfl ?_
  refine R.fld fa69_7 rfl ?_
  refine R.store t3 hB902 rfl rfl (rfl) (by simp) nofun ?_
  intro w1 hU1 hs1 hN1
  replace hE := hE.trans hU1 (fun x _ h => h)
  replace hB902 : Blk _ b902 69 #[x0, x1, x2, x3, x4, x5, x6, .int .i64 ((c + 1 : Nat) : Int)] := hN1
  clear hN1
  refine R.nil ?_
  refine E.seq ?_
  refine E.regionP rfl ?_
  refine R.move ?_
  refine R.move ?_
  refine R.nilCheck rfl ?_
  refine R.fld fa69_7 rfl ?_
  refine R.loadB t3 hB902 rfl rfl rfl trivial ?_
  refine R.toU8 (n := c + 1) Try.underlying3 Try.underlying5 rfl ?_
  refine R.callE2 ent25 (fill_ _ (by omega)) rfl rfl nofun ?_
  rintro v20 w2 hx2 ⟨hS20, hF20⟩
  replace hF20 := hF20.mono hE.size
  replace hB902 := hB902.ext hx2
  replace hE := hE.ext hx2
  refine R.assign ?_
  refine R.nil ?_
  refine E.seq ?_
  refine E.seq ?_
  refine E.forget [(5, v20)] ⟨rfl, trivial⟩ (fun e => ?_)
  refine E.regionP rfl ?_
  refine R.move ?_
  refine R.len Try.underlying55 hS20.row rfl ?_
  rw [List.length_replicate]
  refine R.move ?_
  refine R.nil ?_
  refine E.block ?_
  refine E.loop (fun n e wr => ∃ (i : Nat) (xs : List Nat), n = m - i ∧ i ≤ m ∧ xs.length = m ∧ (∀ x ∈ xs, x < 256) ∧ SU8s wr v20 xs ∧ Blk wr b902 69 #[x0, x1, x2, x3, x4, x5, x6, .int .i64 ((c + 1 : Nat) : Int)] ∧ Upd (one b902) w wr ∧ Has e [(5, v20), (22, .int .i64 ((m : Nat) : Int)), (23, .int .i64 ((i : Nat) : Int))]) (m) ?_ ?_
  · exact ⟨0, _, rfl, by omega, List.length_replicate, fun x hx => by rw [List.eq_of_mem_replicate hx]; exact Nat.mod_lt _ (by decide), hS20, hB902, hE, rfl, rfl, rfl, trivial⟩
  · rintro n e wr ⟨i, xs, rfl, hi, hxl, hxb, hS20, hB902, hE, hH⟩
    obtain ⟨e, rfl⟩ := hH.ex
    clear hH
    refine E.seq ?_
    refine E.regionP rfl ?_
    refine R.lss (b := decide ((((i : Nat) : Int)) < (((m : Nat) : Int)))) rfl rfl rfl ?_
    refine R.nil ?_
    refine E.seq ?_
    refine E.cond (b := decide ((((i : Nat) : Int)) < (((m : Nat) : Int)))) rfl (fun hc24 => ?_) (fun hc24 => ?_)
    · replace hc24 := dT hc24
      refine E.skip ?_
      refine E.seq ?_
      refine E.block ?_
      refine E.seq ?_
      refine E.regionP rfl ?_
      refine R.move ?_
      refine R.assign ?_
      refine R.nil ?_
      refine E.regionP rfl ?_
      refine R.move ?_
      refine R.move ?_
      refine R.ix (m := i) Try.underlying55 t5 (by decide) hS20.row rfl rfl (by omega) ?_
      refine R.load (u := .int .u8 ((xs.getD i 0 : Nat) : Int)) t5 hS20.row rfl (u8_getD (i := i) (by first | omega | decide)) rfl (fun _ _ => trivial) ?_
      refine R.move ?_
      refine R.mulN (m := 7) (n := i) rfl rfl (by omega) ?_
      refine R.toU8 (n := 7 * i) Try.underlying3 Try.underlying5 rfl ?_
      refine R.addU8 (m := xs.getD i 0) (n := (7 * i) % 256) rfl rfl ?_
      refine R.ix (m := i) Try.underlying55 t5 (by decide) hS20.row rfl rfl (by omega) ?_
      refine R.stE (j := i) t5 hS20 rfl rfl rfl (by first | omega | decide) nofun ?_
      intro w3 hU3 hs3 hN3
      replace hB902 := hB902.upS hU3 hS20 (by decide)
      replace hE := hE.app hU3 hF20
      replace hS20 : Sl _ 5 1 v20 ((xs.set i (((xs.getD i 0) + ((7 * i) % 256)) % 256))).length (u8s ((xs.set i (((xs.getD i 0) + ((7 * i) % 256)) % 256)))) := (by rw [List.length_set, ← u8s_set]; exact hN3)
      refine R.nil ?_
      refine E.forget [(5, v20), (22, .int .i64 ((m : Nat) : Int)), (23, .int .i64 ((i : Nat) : Int))] ⟨rfl, rfl, rfl, trivial⟩ (fun e => ?_)
      refine E.regionP rfl ?_
      refine R.addN (m := i) (n := 1) rfl rfl (by omega) ?_
      refine R.move ?_
      refine R.nil ?_
      exact ⟨m - (i + 1), by omega, i + 1, _, rfl, by omega, (by rw [List.length_set]; exact hxl), (lt_set hxb (Nat.mod_lt _ (by decide))), hS20, hB902, hE, rfl, rfl, rfl, trivial⟩
    · replace hc24 := dF hc24
      refine E.exit ?_
      refine E.seq ?_
      refine E.regionP rfl ?_
      refine R.move ?_
      refine R.assign ?_
      refine R.nil ?_
      refine E.ret ?_
      refine ret1 (v20) rfl rfl ⟨_, rfl, ?_⟩
      exact ⟨hE, hB902, xs, hxl, hxb, hS20, hF20⟩
end Go.Proofs.Ytlplogplicgfiaa
