import Derived.Test.YtlplogplicgfiaaZ4JO
namespace Go.Proofs.Ytlplogplicgfiaa
open Go Go.RowKit
structure Jn where
  live : List Rc
  life : Nat
  mended : Nat
  down : Bool
def recsC : List Value → List Rc → List Value
  | u :: us, r :: l => (rcC r u).toList ++ recsC us l
  | _, _ => []
theorem recsC_len : ∀ {us : List Value} {l : List Rc}, us.length = l.length → (recsC us l).length = l.length * 6
  | [], [], _ => rfl
  | u :: us, r :: l, h => by
    simp only [recsC, List.length_append, recsC_len (us := us) (l := l) (by simpa using h), List.length_cons]; simp; omega
  | [], _ :: _, h => by simp at h
  | _ :: _, [], h => by simp at h
theorem recs_take : ∀ {us : List Value} {l : List Rc}, us.length = l.length → ∀ {i : Nat}, i < l.length → ((recsC us l).drop (i * 6)).take 6 = (rcC (l.getD i Rc0) (us.getD i undef)).toList
  | u :: us, r :: l, h, 0, _ => by
    show (((rcC r u).toList ++ recsC us l).drop 0).take 6 = (rcC r u).toList; simp
  | u :: us, r :: l, h, i + 1, hi => by
    have ih := recs_take (us := us) (l := l) (by simpa using h) (i := i) (by simpa using hi); rw [show (i + 1) * 6 = (rcC r u).toList.length + i * 6 by simp; omega]; simp only [recsC]; rw [← List.drop_drop, List.drop_left]; simpa using ih
  | [], [], _, i, hi => by simp at hi
  | [], _ :: _, h, _, _ => by simp at h
  | _ :: _, [], h, _, _ => by simp at h
theorem recs_cell {us : List Value} {l : List Rc} (h : us.length = l.length) {i : Nat} (hi : i < l.length) (k : Nat) (hk : k < 6) : (recsC us l)[i * 6 + k]? = (rcC (l.getD i Rc0) (us.getD i undef)).toList[k]? := by
  rw [← recs_take h hi, List.getElem?_take, if_pos hk, List.getElem?_drop]
theorem recs_one : ∀ {us : List Value} {l : List Rc}, (∀ u ∈ us, u.oneCell' = true) → ∀ x ∈ recsC us l, x.oneCell' = true
  | [], _, _ => by simp [recsC]
  | _ :: _, [], _ => by simp [recsC]
  | u :: us, r :: l, h => fun x hx => by
    simp only [recsC, List.mem_append] at hx; rcases hx with hx | hx
    · simp at hx; rcases hx with rfl | rfl | rfl | rfl | rfl | rfl
      all_goals first | rfl | exact h _ List.mem_cons_self
    · exact recs_one (fun v hv => h v (List.mem_cons_of_mem _ hv)) x hx
structure JM (w : World) (pj pd : Nat) (vl : Value) (us : List Value) (j : Jn) : Prop where
  blk : Blk w pj 86 #[.pointer (some ⟨pd, 0, none⟩), vl, .int .i64 (j.life : Nat), .int .i64 (j.mended : Nat), .bool j.down]
  lv : Sl w 106 6 vl j.live.length (recsC us j.live)
  len : us.length = j.live.length
  rows : ∀ i, i < j.live.length → SU8s w (us.getD i undef) (j.live.getD i Rc0).dat
def JB (pj : Nat) (vl : Value) (us : List Value) (x : Nat) : Prop := x = pj ∨ vblk vl = some x ∨ ∃ u ∈ us, vblk u = some x
section
variable {w w' : World} {pj pd : Nat} {vl : Value} {us : List Value} {j : Jn}
theorem JM.up {X : Nat → Prop} (h : JM w pj pd vl us j) (u : Upd X w w') (hX : ∀ x, X x → ¬ JB pj vl us x) : JM w' pj pd vl us j :=
  ⟨h.blk.up u (fun e => hX _ e (.inl rfl)), h.lv.up u (fun b hb e => hX _ e (.inr (.inl hb))), h.len, fun i hi => (h.rows i hi).up u (fun b hb e => hX _ e (.inr (.inr ⟨us.getD i undef, by
    have hl := h.len; rw [List.getD_eq_getElem?_getD, List.getElem?_eq_getElem (by omega)]
    exact List.getElem_mem _, hb⟩)))⟩
theorem JM.ext (h : JM w pj pd vl us j) (u : Ext w w') : JM w' pj pd vl us j := h.up u (fun _ e => e.elim)
theorem JM.jb (h : JM w pj pd vl us j) {x : Nat} (hx : JB pj vl us x) : ∃ ty cs, Blk w x ty cs ∧ (ty = 86 ∨ ty = 106 ∨ ty = 5) := by
  rcases hx with rfl | hx | ⟨u, hu, hx⟩
  · exact ⟨_, _, h.blk, .inl rfl⟩
  · obtain ⟨c, q⟩ := h.lv.blk hx; exact ⟨_, _, q, .inr (.inl rfl)⟩
  · obtain ⟨i, hi, rfl⟩ := List.mem_iff_getElem.1 hu; have h1 := h.rows i (by have := h.len; omega); rw [List.getD_eq_getElem?_getD, List.getElem?_eq_getElem hi] at h1; obtain ⟨c, q⟩ := h1.blk hx; exact ⟨_, _, q, .inr (.inr rfl)⟩
theorem JM.new (h : JM w pj pd vl us j) {b : Nat} (hb : w.heap.size ≤ b) : ¬ JB pj vl us b := fun e => by
  obtain ⟨ty, cs, q, _⟩ := h.jb e; have := q.lt; omega
theorem JM.upN {b : Nat} (h : JM w pj pd vl us j) (u : Upd (one b) w w') (hb : ¬ JB pj vl us b) : JM w' pj pd vl us j := h.up u (fun x e => by have e1 : x = b := e; rw [e1]; exact hb)
theorem JM.notT (h : JM w pj pd vl us j) {b : Nat} {ty : TypeId} {cs : Array Value} (hB : Blk w b ty cs) (hne : 86 ≠ ty ∧ 106 ≠ ty ∧ 5 ≠ ty) : ¬ JB pj vl us b := fun e => by
  obtain ⟨ty', cs', q, h1⟩ := h.jb e; have h2 := (q.inj hB).2; rcases h1 with rfl | rfl | rfl
  · exact hne.1 h2
  · exact hne.2.1 h2
  · exact hne.2.2 h2
theorem JM.upT {b : Nat} {cs : Array Value} {ty : TypeId} (h : JM w pj pd vl us j) (u : Upd (one b) w w') (hB : Blk w b ty cs) (hne : 86 ≠ ty ∧ 106 ≠ ty ∧ 5 ≠ ty) : JM w' pj pd vl us j := h.upN u (h.notT hB hne)
theorem JM.upS {x : Value} {ty' k' m : Nat} {ds : List Value} (h : JM w pj pd vl us j) (u : Upd (fun b => vblk x = some b) w w') (hx : Sl w ty' k' x m ds) (hne : 86 ≠ ty' ∧ 106 ≠ ty' ∧ 5 ≠ ty') : JM w' pj pd vl us j :=
  h.up u (fun b e => by obtain ⟨c, q⟩ := hx.blk e; exact h.notT q hne)
theorem JM.upD {p : Nat} {vb vd : Value} {d : Dk} (h : JM w pj pd vl us j) (u : Upd (DB p vb vd) w w') (hD : DM w p vb vd d) : JM w' pj pd vl us j :=
  h.up u (fun x e => by
    rcases e with rfl | e | e
    · exact h.notT hD.blk (by decide)
    · obtain ⟨c, q⟩ := hD.bls.blk e; exact h.notT q (by decide)
    · obtain ⟨c, q⟩ := hD.bds.blk e; exact h.notT q (by decide))
end
def NoJ (w : World) (v : Value) : Prop := v = .pointer none ∨ ∃ b, v = .pointer (some ⟨b, 0, none⟩) ∧ Blk w b 86 #[.pointer none, .slice none 0 0, .int .i64 ((0 : Nat) : Int), .int .i64 ((0 : Nat) : Int), .bool (false)]
theorem NoJ.ext {w w' : World} {v : Value} (h : NoJ w v) (u : Ext w w') : NoJ w' v := h.elim .inl (fun ⟨b, e, hB⟩ => .inr ⟨b, e, hB.ext u⟩)
def totalL (l : List Rc) : Nat := (l.map (fun r => r.h.total)).sum
def freeI (n : Nat) (l : List Rc) : Int := (n : Int) - ((totalL l : Nat) : Int)
def firstN (l : List Rc) : Nat := if l.length = 0 then 1 else (l.getD 0 Rc0).h.number
def lastN (l : List Rc) : Nat := (l.getD (l.length - 1) Rc0).h.number
def roomI (n : Nat) (l : List Rc) : Int := if freeI n l < 1 then -1 else min (48 * freeI n l) 4032
theorem totalL_take {l : List Rc} {i : Nat} (h : i < l.length) : totalL (l.take (i + 1)) = totalL (l.take i) + (l.getD i Rc0).h.total := by
  unfold totalL; rw [List.take_add_one, List.map_append, List.sum_append, List.getD_eq_getElem?_getD, List.getElem?_eq_getElem h]; simp
structure JOK (j : Jn) : Prop where
  len : j.live.length ≤ 2000
  tot : ∀ i, i < j.live.length → (j.live.getD i Rc0).h.total ≤ 84
  num : ∀ i, i < j.live.length → (j.live.getD i Rc0).h.number = firstN j.live + i
  fst : 1 ≤ firstN j.live
  max : lastN j.live ≤ 4294967295
  life : j.life ≤ 4294967296
theorem JOK.totalL {j : Jn} (h : JOK j) : ∀ {i : Nat}, i ≤ j.live.length → totalL (j.live.take i) ≤ 84 * i
  | 0, _ => by simp [Ytlplogplicgfiaa.totalL]
  | i + 1, hi => by
    have := h.totalL (i := i) (by omega); have := h.tot i (by omega); rw [totalL_take (by omega)]; omega
theorem JOK.last {j : Jn} (h : JOK j) : lastN j.live + 1 = firstN j.live + j.live.length := by
  unfold lastN; rcases Nat.eq_zero_or_pos j.live.length with h0 | h0
  · have e : j.live = [] := by cases hl : j.live with
      | nil => rfl
      | cons a b => rw [hl] at h0; simp at h0
    rw [e]; simp [firstN, Rc0]
  · have := h.num (j.live.length - 1) (by omega); omega
theorem R.minZ {P : Program} {ops : Array Oper} {S : Bool → Nat → Prop} {dr : Bool} {B : List Nat} {F : Env → World → Prop} {rest : List Oper} {e : Env} {w : World} {d : Tmp} {ty : TypeId} {pos : String} {aft : Array Edge} {x y : Operand} {ats : Array TypeId} {m n : Int} (hx : ev e x = .int .i64 m) (hy : ev e y = .int .i64 n)
    (h : wpR P ops S dr (kind B) F rest (upd e d (.int .i64 (min m n))) w) : wpR P ops S dr (kind B) F (⟨some d, .call { callee := .builtin .min, args := #[x, y], argTypes := ats }, ty, pos, aft, none⟩ :: rest) e w := by
  refine R.quiet (.int .i64 (min m n)) rfl (fun w' _ => ?_) h; simp [execOp, resolve, invoke, builtin, hx, hy, run_min_int2]
  split <;> omega
def GRes (w w' : World) (r : Value) (l : List Rc) (n : Int) : Prop :=
  if n < (firstN l : Int) ∨ (lastN l : Int) < n then r = .tuple #[.slice none 0 0, .bool false]
  else ∃ v, r = .tuple #[v, .bool true] ∧ SU8s w' v (l.getD (n - (firstN l : Int)).toNat Rc0).dat ∧ Fresh w v
theorem there_ (w : World) {b901 b900 : Nat} {vl : Value} {us : List Value} {j : Jn} (hJ : JM w b901 b900 vl us j) :
    Calls Try.prog 51 #[.pointer (some ⟨b901, 0, none⟩)] w (Ret fun r w' => Ext w w' ∧ r = .bool true) := by
  refine calls_E (args := [P6 b901]) 12 Try.func51 rfl rfl (by simp) ?_; have hE : Ext w w := Upd.refl w; refine E.seq ?_; refine E.regionP rfl ?_; refine R.assign ?_; refine R.nil ?_; refine E.seq ?_; refine E.regionP rfl ?_; refine R.move ?_; refine R.neqNil (b := true) Try.underlying66 rfl rfl rfl ?_; refine R.move ?_; refine R.gT rfl rfl ?_; refine R.move ?_; refine R.gT rfl rfl ?_; refine R.nilCheck rfl ?_; refine R.gT rfl rfl ?_; refine R.fld fa86_0 rfl ?_; refine R.gT rfl rfl ?_; refine R.loadB t32 hJ.blk rfl rfl rfl trivial ?_; refine R.gT rfl rfl ?_; refine R.neqNil (b := true) Try.underlying32 rfl rfl rfl ?_; refine R.pickT rfl ?_; refine R.assign ?_; refine R.nil ?_; refine E.ret ?_; refine ret1 (.bool (true)) rfl rfl ⟨_, rfl, ?_⟩; exact ⟨hE, rfl⟩
theorem thereN_ (w : World) {v : Value} (hN : NoJ w v) : Calls Try.prog 51 #[v] w (Ret fun r w' => Ext w w' ∧ r = .bool false) := by
  rcases hN with rfl | ⟨b901, rfl, hB901⟩
  · refine calls_E (args := [.pointer none]) 12 Try.func51 rfl rfl (by simp) ?_; have hE : Ext w w := Upd.refl w; refine E.seq ?_; refine E.regionP rfl ?_; refine R.assign ?_; refine R.nil ?_; refine E.seq ?_; refine E.regionP rfl ?_; refine R.move ?_; refine R.neqNil (b := false) Try.underlying66 rfl rfl rfl ?_; refine R.move ?_; (iterate 5 refine R.gF rfl rfl rfl ?_); refine R.pickF rfl ?_; refine R.assign ?_; refine R.nil ?_; refine E.ret ?_; refine ret1 (.bool (false)) rfl rfl ⟨_, rfl, ?_⟩; exact ⟨hE, rfl⟩
  · refine calls_E (args := [P6 b901]) 12 Try.func51 rfl rfl (by simp) ?_; have hE : Ext w w := Upd.refl w; refine E.seq ?_; refine E.regionP rfl ?_; refine R.assign ?_; refine R.nil ?_; refine E.seq ?_; refine E.regionP rfl ?_; refine R.move ?_; refine R.neqNil (b := true) Try.underlying66 rfl rfl rfl ?_; refine R.move ?_; refine R.gT rfl rfl ?_; refine R.move ?_; refine R.gT rfl rfl ?_; refine R.nilCheck rfl ?_; refine R.gT rfl rfl ?_; refine R.fld fa86_0 rfl ?_; refine R.gT rfl rfl ?_; refine R.loadB t32 hB901 rfl rfl rfl trivial ?_; refine R.gT rfl rfl ?_; refine R.neqNil (b := false) Try.underlying32 rfl rfl rfl ?_; refine R.pickT rfl ?_; refine R.assign ?_; refine R.nil ?_; refine E.ret ?_; refine ret1 (.bool (false)) rfl rfl ⟨_, rfl, ?_⟩; exact ⟨hE, rfl⟩
theorem free_ (w : World) {b901 b900 : Nat} {vl vb vd : Value} {us : List Value} {j : Jn} {d : Dk} (hD : DM w b900 vb vd d) (hJ : JM w b901 b900 vl us j) (hO : JOK j) :
    Calls Try.prog 52 #[.pointer (some ⟨b901, 0, none⟩)] w (Ret fun r w' => Ext w w' ∧ r = .int .i64 (freeI d.n j.live)) := by
  have hnl := d.n_le; have hll := hO.len; refine calls_E (args := [P6 b901]) 27 Try.func52 rfl rfl (by simp) ?_; have hE : Ext w w := Upd.refl w; refine E.seq ?_; refine E.regionP rfl ?_; refine R.assign ?_; refine R.nil ?_; refine E.seq ?_; refine E.regionP rfl ?_; refine R.move ?_; refine R.nilCheck rfl ?_; refine R.fld fa86_0 rfl ?_; refine R.loadB t32 hJ.blk rfl rfl rfl trivial ?_; refine R.callE1 ent43 (places_ _ hD) rfl nofun ?_; rintro v10 w1 hx1 rfl; replace hD := hD.ext hx1; replace hJ := hJ.ext hx1; replace hE := hE.ext hx1; refine R.assign ?_; refine R.nil ?_; (iterate 2 refine E.seq ?_); refine E.regionP rfl ?_; refine R.move ?_; refine R.nilCheck rfl ?_; refine R.fld fa86_1 rfl ?_; refine R.loadB t84 hJ.blk rfl rfl rfl trivial ?_; refine R.len Try.underlying84 hJ.lv.row rfl ?_; refine R.move ?_; refine R.nil ?_; refine E.block ?_; refine E.loop (fun n e wr => ∃ (i : Nat), n = j.live.length - i ∧ i ≤ j.live.length ∧ DM wr b900 vb vd d ∧ JM wr b901 b900 vl us j ∧ Ext w wr ∧ Has e [(3, .int .i64 ((d.n : Int) - ((totalL (j.live.take i) : Nat) : Int))), (14, vl), (15, N6 j.live.length), (16, N6 i)]) (j.live.length) ?_ ?_
  · exact ⟨0, rfl, by omega, hD, hJ, hE, (by simp [totalL]; rfl), rfl, rfl, rfl, trivial⟩
  · rintro n e wr ⟨i, rfl, hi, hD, hJ, hE, hH⟩; obtain ⟨e, rfl⟩ := hH.ex; clear hH; refine E.seq ?_; refine E.regionP rfl ?_; refine R.lss (b := decide (((i : Int)) < ((j.live.length : Int)))) rfl rfl rfl ?_; refine R.nil ?_; refine E.seq ?_; refine E.cond (b := decide (((i : Int)) < ((j.live.length : Int)))) rfl (fun hc17 => ?_) (fun hc17 => ?_)
    · replace hc17 := dT hc17; have htl := totalL_take (l := j.live) (i := i) (by omega); have ht1 := hO.totalL (i := i) (by omega); have ht2 := hO.tot i (by omega); refine E.skip ?_; refine E.seq ?_; refine E.block ?_; refine E.seq ?_; refine E.regionP rfl ?_; refine R.ix (m := i) Try.underlying84 t106 (by decide) hJ.lv.row rfl rfl (by omega) ?_; refine R.loadE t106 (by decide) hJ.lv.row rfl (recs_take hJ.len (by omega)) rfl rfl (fun _ _ => trivial) ?_; refine R.alloc t106 nofun ?_; intro b5 w2 hb5 hx2 hB5; have hn_hJ_5 := hJ.new hb5; replace hb5 := Nat.le_trans hE.size hb5; replace hD := hD.ext hx2; replace hJ := hJ.ext hx2; replace hE := hE.ext hx2; replace hB5 : Blk _ b5 106 #[N6 0, N6 0, N6 0, N6 0, N6 0, .slice none 0 0] := hB5; refine R.storeA t106 hB5 rfl rfl rfl rfl (ones6 rfl rfl rfl rfl rfl (hJ.rows i (by omega)).one) nofun ?_; intro w3 hU3 hs3 hN3; replace hD := hD.upT hU3 hB5 (by decide); replace hJ := hJ.upN hU3 hn_hJ_5; replace hE := hE.own hU3 hb5; replace hB5 : Blk _ b5 106 #[N6 ((j.live.getD i Rc0).h.total), N6 ((j.live.getD i Rc0).h.number), N6 ((j.live.getD i Rc0).h.life), N6 ((j.live.getD i Rc0).h.first), N6 ((j.live.getD i Rc0).at_), (us.getD i undef)] := hN3; clear hN3; refine R.nil ?_; refine E.regionP rfl ?_; refine R.move ?_; refine R.fld fa106_0 rfl ?_; refine R.fld fa103_0 rfl ?_; refine R.loadB t3 hB5 rfl rfl rfl trivial ?_; refine R.sub (m := (d.n : Int) - ((totalL (j.live.take i) : Nat) : Int)) (n := (((j.live.getD i Rc0).h.total : Nat) : Int)) rfl rfl (by omega) (by omega) ?_; refine R.assign ?_; refine R.nil ?_; refine E.regionP rfl ?_; refine R.addN (m := i) (n := 1) rfl rfl (by omega) ?_; refine R.move ?_; refine R.nil ?_; exact ⟨j.live.length - (i + 1), by omega, i + 1, rfl, by omega, hD, hJ, hE, (by show Value.int _ _ = _; rw [htl]; congr 1; omega), rfl, rfl, rfl, trivial⟩
    · replace hc17 := dF hc17; refine E.exit ?_; refine E.seq ?_; refine E.regionP rfl ?_; refine R.move ?_; refine R.assign ?_; refine R.nil ?_; refine E.ret ?_; refine ret1 (.int .i64 ((d.n : Int) - ((totalL (j.live.take i) : Nat) : Int))) rfl rfl ⟨_, rfl, ?_⟩; refine ⟨hE, ?_⟩; obtain rfl : i = j.live.length := by omega
      rw [List.take_length]; rfl
theorem first_ (w : World) {b901 b900 : Nat} {vl : Value} {us : List Value} {j : Jn} (hJ : JM w b901 b900 vl us j) (hll : j.live.length ≤ 2000) :
    Calls Try.prog 40 #[.pointer (some ⟨b901, 0, none⟩)] w (Ret fun r w' => Ext w w' ∧ r = .int .i64 ((firstN j.live : Nat) : Int)) := by
  refine calls_E (args := [P6 b901]) 22 Try.func40 rfl rfl (by simp) ?_; have hE : Ext w w := Upd.refl w; refine E.seq ?_; refine E.regionP rfl ?_; refine R.assign ?_; refine R.nil ?_; refine E.seq ?_; refine E.block ?_; refine E.seq ?_; refine E.regionP rfl ?_; refine R.move ?_; refine R.callE1 ent51 (there_ _ hJ) rfl nofun ?_; rintro v5 w1 hx1 rfl; replace hJ := hJ.ext hx1; replace hE := hE.ext hx1; refine R.not rfl ?_; refine R.assign ?_; refine R.nil ?_; refine E.condF rfl ?_; refine E.seq ?_; refine E.regionP rfl ?_; refine R.move ?_; refine R.nilCheck rfl ?_; refine R.fld fa86_1 rfl ?_; refine R.loadB t84 hJ.blk rfl rfl rfl trivial ?_; refine R.len Try.underlying84 hJ.lv.row rfl ?_; refine R.eql (b := decide (((j.live.length : Int)) = (((0 : Nat) : Int)))) rfl rfl rfl ?_; refine R.assign ?_; refine R.nil ?_; refine E.cond (b := decide (((j.live.length : Int)) = (((0 : Nat) : Int)))) rfl (fun hc7 => ?_) (fun hc7 => ?_)
  · replace hc7 := dT hc7; refine E.seq ?_; refine E.forget [] trivial (fun e => ?_); refine E.regionP rfl ?_; refine R.assign ?_; refine R.nil ?_; refine E.ret ?_; refine ret1 (N6 1) rfl rfl ⟨_, rfl, ?_⟩; refine ⟨hE, ?_⟩; unfold firstN; rw [if_pos (by omega)]
  · replace hc7 := dF hc7; refine E.skip ?_; refine E.seq ?_; refine E.forget [(0, P6 b901)] ⟨rfl, trivial⟩ (fun e => ?_); refine E.regionP rfl ?_; refine R.move ?_; refine R.nilCheck rfl ?_; refine R.fld fa86_1 rfl ?_; refine R.loadB t84 hJ.blk rfl rfl rfl trivial ?_; refine R.ix (m := 0) Try.underlying84 t106 (by decide) hJ.lv.row rfl rfl (by omega) ?_; refine R.fldE fa106_0 hJ.lv.row (by rw [recsC_len hJ.len]; omega) rfl ?_; refine R.fldE fa103_1 hJ.lv.row (by rw [recsC_len hJ.len]; omega) rfl ?_; refine R.load (u := N6 ((j.live.getD 0 Rc0).h.number)) t3 hJ.lv.row rfl (recs_cell hJ.len (by omega) 1 (by decide)) rfl (fun _ _ => trivial) ?_; refine R.assign ?_; refine R.nil ?_; refine E.ret ?_; refine ret1 (N6 ((j.live.getD 0 Rc0).h.number)) rfl rfl ⟨_, rfl, ?_⟩; refine ⟨hE, ?_⟩; unfold firstN; rw [if_neg (by omega)]
theorem lastN_ (w : World) {b901 b900 : Nat} {vl : Value} {us : List Value} {j : Jn} (hJ : JM w b901 b900 vl us j) (hll : j.live.length ≤ 2000) :
    Calls Try.prog 37 #[.pointer (some ⟨b901, 0, none⟩)] w (Ret fun r w' => Ext w w' ∧ r = .int .i64 ((lastN j.live : Nat) : Int)) := by
  refine calls_E (args := [P6 b901]) 28 Try.func37 rfl rfl (by simp) ?_; have hE : Ext w w := Upd.refl w; refine E.seq ?_; refine E.regionP rfl ?_; refine R.assign ?_; refine R.nil ?_; (iterate 2 refine E.seq ?_); refine E.regionP rfl ?_; refine R.move ?_; refine R.callE1 ent51 (there_ _ hJ) rfl nofun ?_; rintro v4 w1 hx1 rfl; replace hJ := hJ.ext hx1; replace hE := hE.ext hx1; refine R.not rfl ?_; refine R.move ?_; refine R.gT rfl rfl ?_; refine R.move ?_; refine R.gT rfl rfl ?_; refine R.nilCheck rfl ?_; refine R.gT rfl rfl ?_; refine R.fld fa86_1 rfl ?_; refine R.gT rfl rfl ?_; refine R.loadB t84 hJ.blk rfl rfl rfl trivial ?_; refine R.gT rfl rfl ?_; refine R.len Try.underlying84 hJ.lv.row rfl ?_; refine R.gT rfl rfl ?_; refine R.eql (b := decide (((j.live.length : Int)) = (((0 : Nat) : Int)))) rfl rfl rfl ?_; refine R.pickF rfl ?_; refine R.nil ?_; refine E.cond (b := decide (((j.live.length : Int)) = (((0 : Nat) : Int)))) rfl (fun hc13 => ?_) (fun hc13 => ?_)
  · replace hc13 := dT hc13; refine E.seq ?_; refine E.forget [] trivial (fun e => ?_); refine E.regionP rfl ?_; refine R.assign ?_; refine R.nil ?_; refine E.ret ?_; refine ret1 (N6 0) rfl rfl ⟨_, rfl, ?_⟩; refine ⟨hE, ?_⟩; have h0 : j.live.length = 0 := by omega
    unfold lastN; rw [h0, List.getD_eq_getElem?_getD, List.getElem?_eq_none (by omega)]; rfl
  · replace hc13 := dF hc13; refine E.skip ?_; refine E.seq ?_; refine E.forget [(0, P6 b901)] ⟨rfl, trivial⟩ (fun e => ?_); refine E.regionW allS [] mixed rfl (by kernel_rfl) ?_; intro w2 hx2 hh2; replace hJ := hJ.ext hx2; replace hE := hE.ext hx2; refine R.move ?_; refine R.nilCheck rfl ?_; refine R.fld fa86_1 rfl ?_; refine R.loadB t84 hJ.blk rfl rfl rfl trivial ?_; refine R.move ?_; refine R.nilCheck rfl ?_; refine R.fld fa86_1 rfl ?_; refine R.loadB t84 hJ.blk rfl rfl rfl trivial ?_; refine R.len Try.underlying84 hJ.lv.row rfl ?_; refine R.subN (m := j.live.length) (n := 1) rfl rfl (by omega) (by omega) ?_; refine R.ix (m := (j.live.length - 1)) Try.underlying84 t106 (by decide) hJ.lv.row rfl rfl (by omega) ?_; refine R.fldE fa106_0 hJ.lv.row (by rw [recsC_len hJ.len]; omega) rfl ?_; refine R.fldE fa103_1 hJ.lv.row (by rw [recsC_len hJ.len]; omega) rfl ?_; refine R.load (u := N6 ((j.live.getD (j.live.length - 1) Rc0).h.number)) t3 hJ.lv.row rfl (recs_cell hJ.len (by omega) 1 (by decide)) rfl (fun _ _ => trivial) ?_; refine R.assign ?_; refine R.nil ?_; refine E.ret ?_; refine ret1 (N6 ((j.live.getD (j.live.length - 1) Rc0).h.number)) rfl rfl ⟨_, rfl, ?_⟩; exact ⟨hE, rfl⟩
theorem lastNN_ (w : World) {v : Value} (hN : NoJ w v) : Calls Try.prog 37 #[v] w (Ret fun r w' => Ext w w' ∧ r = .int .i64 ((0 : Nat) : Int)) := by
  refine calls_E (args := [v]) 28 Try.func37 rfl rfl (by simp) ?_; have hE : Ext w w := Upd.refl w; refine E.seq ?_; refine E.regionP rfl ?_; refine R.assign ?_; refine R.nil ?_; (iterate 2 refine E.seq ?_); refine E.regionP rfl ?_; refine R.move ?_; refine R.callE1 ent51 (thereN_ _ hN) rfl nofun ?_; rintro v4 w1 hx1 rfl; replace hN := hN.ext hx1; replace hE := hE.ext hx1; refine R.not rfl ?_; refine R.move ?_; (iterate 6 refine R.gF rfl rfl rfl ?_); refine R.pickT rfl ?_; refine R.nil ?_; refine E.condT rfl ?_; refine E.seq ?_; refine E.forget [] trivial (fun e => ?_); refine E.regionP rfl ?_; refine R.assign ?_; refine R.nil ?_; refine E.ret ?_; refine ret1 (N6 0) rfl rfl ⟨_, rfl, ?_⟩; exact ⟨hE, rfl⟩
theorem mended_ (w : World) {b901 b900 : Nat} {vl : Value} {us : List Value} {j : Jn} (hJ : JM w b901 b900 vl us j) :
    Calls Try.prog 34 #[.pointer (some ⟨b901, 0, none⟩)] w (Ret fun r w' => Ext w w' ∧ r = .int .i64 (j.mended : Int)) := by
  refine calls_E (args := [P6 b901]) 10 Try.func34 rfl rfl (by simp) ?_; have hE : Ext w w := Upd.refl w; refine E.seq ?_; refine E.regionP rfl ?_; refine R.assign ?_; refine R.nil ?_; (iterate 2 refine E.seq ?_); refine E.regionP rfl ?_; refine R.move ?_; refine R.callE1 ent51 (there_ _ hJ) rfl nofun ?_; rintro v4 w1 hx1 rfl; replace hJ := hJ.ext hx1; replace hE := hE.ext hx1; refine R.not rfl ?_; refine R.nil ?_; refine E.condF rfl ?_; refine E.skip ?_; refine E.seq ?_; refine E.regionP rfl ?_; refine R.move ?_; refine R.nilCheck rfl ?_; refine R.fld fa86_3 rfl ?_; refine R.loadB t3 hJ.blk rfl rfl rfl trivial ?_; refine R.assign ?_; refine R.nil ?_; refine E.ret ?_; refine ret1 (N6 j.mended) rfl rfl ⟨_, rfl, ?_⟩; exact ⟨hE, rfl⟩
theorem room_ (w : World) {b901 b900 : Nat} {vl vb vd : Value} {us : List Value} {j : Jn} {d : Dk} (hD : DM w b900 vb vd d) (hJ : JM w b901 b900 vl us j) (hO : JOK j) :
    Calls Try.prog 35 #[.pointer (some ⟨b901, 0, none⟩)] w (Ret fun r w' => Ext w w' ∧ r = .int .i64 (roomI d.n j.live)) := by
  have hnl := d.n_le; have hfu : freeI d.n j.live ≤ 1000 := by unfold freeI; omega
  refine calls_E (args := [P6 b901]) 15 Try.func35 rfl rfl (by simp) ?_; have hE : Ext w w := Upd.refl w; refine E.seq ?_; refine E.regionP rfl ?_; refine R.assign ?_; refine R.nil ?_; (iterate 2 refine E.seq ?_); refine E.regionP rfl ?_; refine R.move ?_; refine R.callE1 ent51 (there_ _ hJ) rfl nofun ?_; rintro v4 w1 hx1 rfl; replace hD := hD.ext hx1; replace hJ := hJ.ext hx1; replace hE := hE.ext hx1; refine R.not rfl ?_; refine R.move ?_; refine R.gT rfl rfl ?_; refine R.move ?_; refine R.gT rfl rfl ?_; refine R.callE1 ent52 (free_ _ hD hJ hO) rfl nofun ?_; rintro v8 w2 hx2 rfl; replace hD := hD.ext hx2; replace hJ := hJ.ext hx2; replace hE := hE.ext hx2; refine R.gT rfl rfl ?_; refine R.lss (b := decide (((freeI d.n j.live)) < (((1 : Nat) : Int)))) rfl rfl rfl ?_; refine R.pickF rfl ?_; refine R.nil ?_; refine E.cond (b := decide (((freeI d.n j.live)) < (((1 : Nat) : Int)))) rfl (fun hc10 => ?_) (fun hc10 => ?_)
  · replace hc10 := dT hc10; refine E.seq ?_; refine E.regionP rfl ?_; refine R.assign ?_; refine R.nil ?_; refine E.ret ?_; refine ret1 (.int .i64 (-1)) rfl rfl ⟨_, rfl, ?_⟩; refine ⟨hE, ?_⟩; unfold roomI; rw [if_pos (by omega)]
  · replace hc10 := dF hc10; refine E.skip ?_; refine E.seq ?_; refine E.regionP rfl ?_; refine R.move ?_; refine R.callE1 ent52 (free_ _ hD hJ hO) rfl nofun ?_; rintro v12 w3 hx3 rfl; replace hD := hD.ext hx3; replace hJ := hJ.ext hx3; replace hE := hE.ext hx3; refine R.mul (m := ((48 : Nat) : Int)) (n := (freeI d.n j.live)) rfl rfl (by omega) (by omega) ?_; refine R.minZ (m := 48 * freeI d.n j.live) (n := 4032) rfl rfl ?_; refine R.assign ?_; refine R.nil ?_; refine E.ret ?_; refine ret1 (.int .i64 (min (48 * freeI d.n j.live) 4032)) rfl rfl ⟨_, rfl, ?_⟩; refine ⟨hE, ?_⟩; unfold roomI; rw [if_neg (by omega)]
theorem get_ (w : World) {b901 b900 : Nat} {vl : Value} {us : List Value} {j : Jn} {n : Int} (hJ : JM w b901 b900 vl us j) (hO : JOK j) (hb : ∀ i, i < j.live.length → (j.live.getD i Rc0).dat.length ≤ 4032) (hn1 : -9223372036854775807 ≤ n) (hn2 : n ≤ 9223372036854775807) :
    Calls Try.prog 41 #[.pointer (some ⟨b901, 0, none⟩), .int .i64 n] w (Ret fun r w' => Ext w w' ∧ GRes w w' r j.live n) := by
  have hla := hO.last; have hll := hO.len; have hmx := hO.max; refine calls_E (args := [P6 b901, .int .i64 (n)]) 33 Try.func41 rfl rfl (by simp) ?_; have hE : Ext w w := Upd.refl w; refine E.seq ?_; refine E.regionP rfl ?_; (iterate 2 refine R.assign ?_); refine R.nil ?_; (iterate 2 refine E.seq ?_); have hk : n < (firstN j.live : Int) ∨ (lastN j.live : Int) < n ∨ ∃ m : Nat, n = ((firstN j.live + m : Nat) : Int) ∧ m < j.live.length := by
    rcases (show n < (firstN j.live : Int) ∨ (lastN j.live : Int) < n ∨ ((firstN j.live : Int) ≤ n ∧ n ≤ (lastN j.live : Int)) by omega) with h | h | h
    · exact .inl h
    · exact .inr (.inl h)
    · exact .inr (.inr ⟨(n - (firstN j.live : Int)).toNat, by omega, by omega⟩)
  rcases hk with hk | hk | ⟨m, hm, hk⟩
  · refine E.regionP rfl ?_; refine R.move ?_; refine R.callE1 ent51 (there_ _ hJ) rfl nofun ?_; rintro v7 w1 hx1 rfl; replace hJ := hJ.ext hx1; replace hE := hE.ext hx1; refine R.not rfl ?_; refine R.move ?_; refine R.gT rfl rfl ?_; refine R.move ?_; refine R.gT rfl rfl ?_; refine R.move ?_; refine R.gT rfl rfl ?_; refine R.callE1 ent40 (first_ _ hJ hO.len) rfl nofun ?_; rintro v12 w2 hx2 rfl; replace hJ := hJ.ext hx2; replace hE := hE.ext hx2; refine R.gT rfl rfl ?_; refine R.lss (b := true) rfl rfl (decide_eq_true hk) ?_; refine R.pickF rfl ?_; refine R.move ?_; (iterate 4 refine R.gF rfl rfl rfl ?_); refine R.pickT rfl ?_; refine R.nil ?_; refine E.condT rfl ?_; refine E.seq ?_; refine E.forget [] trivial (fun e => ?_); refine E.regionP rfl ?_; (iterate 2 refine R.assign ?_); refine R.nil ?_; refine E.ret ?_; refine ret2 (.slice none 0 0) (.bool (false)) rfl rfl rfl ⟨_, rfl, ?_⟩; refine ⟨hE, ?_⟩; unfold GRes; rw [if_pos (by omega)]
  · refine E.regionP rfl ?_; refine R.move ?_; refine R.callE1 ent51 (there_ _ hJ) rfl nofun ?_; rintro v7 w3 hx3 rfl; replace hJ := hJ.ext hx3; replace hE := hE.ext hx3; refine R.not rfl ?_; refine R.move ?_; refine R.gT rfl rfl ?_; refine R.move ?_; refine R.gT rfl rfl ?_; refine R.move ?_; refine R.gT rfl rfl ?_; refine R.callE1 ent40 (first_ _ hJ hO.len) rfl nofun ?_; rintro v12 w4 hx4 rfl; replace hJ := hJ.ext hx4; replace hE := hE.ext hx4; refine R.gT rfl rfl ?_; refine R.lss (b := decide ((n) < ((((firstN j.live) : Nat) : Int)))) rfl rfl rfl ?_; refine R.pickF rfl ?_; refine R.move ?_; have hg15 := Bool.eq_false_or_eq_true (decide ((n) < ((((firstN j.live) : Nat) : Int)))); rcases hg15 with hg15 | hg15
    · have hg15q := hg15; replace hg15 := dT hg15; (iterate 4 refine R.gF rfl (cb6 hg15q) rfl ?_); refine R.pickT (cb6 hg15q) ?_; refine R.nil ?_; refine E.condT rfl ?_; refine E.seq ?_; refine E.forget [] trivial (fun e => ?_); refine E.regionP rfl ?_; (iterate 2 refine R.assign ?_); refine R.nil ?_; refine E.ret ?_; refine ret2 (.slice none 0 0) (.bool (false)) rfl rfl rfl ⟨_, rfl, ?_⟩; refine ⟨hE, ?_⟩; unfold GRes; rw [if_pos (by omega)]
    · have hg15q := hg15; replace hg15 := dF hg15; refine R.gT rfl (cb6 hg15q) ?_; refine R.move ?_; refine R.gT rfl (cb6 hg15q) ?_; refine R.move ?_; refine R.gT rfl (cb6 hg15q) ?_; refine R.callE1 ent37 (lastN_ _ hJ hO.len) rfl nofun ?_; rintro v18 w5 hx5 rfl; replace hJ := hJ.ext hx5; replace hE := hE.ext hx5; refine R.gT rfl (cb6 hg15q) ?_; refine R.gtr (b := true) rfl rfl (decide_eq_true (by omega)) ?_; refine R.pickF (cb6 hg15q) ?_; refine R.nil ?_; refine E.condT rfl ?_; refine E.seq ?_; refine E.forget [] trivial (fun e => ?_); refine E.regionP rfl ?_; (iterate 2 refine R.assign ?_); refine R.nil ?_; refine E.ret ?_; refine ret2 (.slice none 0 0) (.bool (false)) rfl rfl rfl ⟨_, rfl, ?_⟩; refine ⟨hE, ?_⟩; unfold GRes; rw [if_pos (by omega)]
  · refine E.regionP rfl ?_; refine R.move ?_; refine R.callE1 ent51 (there_ _ hJ) rfl nofun ?_; rintro v7 w6 hx6 rfl; replace hJ := hJ.ext hx6; replace hE := hE.ext hx6; refine R.not rfl ?_; refine R.move ?_; refine R.gT rfl rfl ?_; refine R.move ?_; refine R.gT rfl rfl ?_; refine R.move ?_; refine R.gT rfl rfl ?_; refine R.callE1 ent40 (first_ _ hJ hO.len) rfl nofun ?_; rintro v12 w7 hx7 rfl; replace hJ := hJ.ext hx7; replace hE := hE.ext hx7; refine R.gT rfl rfl ?_; refine R.lss (b := false) rfl rfl (decide_eq_false (by omega)) ?_; refine R.pickF rfl ?_; refine R.move ?_; refine R.gT rfl rfl ?_; refine R.move ?_; refine R.gT rfl rfl ?_; refine R.move ?_; refine R.gT rfl rfl ?_; refine R.callE1 ent37 (lastN_ _ hJ hO.len) rfl nofun ?_; rintro v18 w8 hx8 rfl; replace hJ := hJ.ext hx8; replace hE := hE.ext hx8; refine R.gT rfl rfl ?_; refine R.gtr (b := false) rfl rfl (decide_eq_false (by omega)) ?_; refine R.pickF rfl ?_; refine R.nil ?_; refine E.condF rfl ?_; refine E.skip ?_; refine E.seq ?_; refine E.forget [(0, P6 b901), (1, .int .i64 (n))] ⟨rfl, rfl, trivial⟩ (fun e => ?_); refine E.regionW (fun c x => x < w8.heap.size ∧ (c = false → True)) []  mixed rfl (by kernel_rfl) ?_; intro w9 hx9 hh9; replace hJ := hJ.ext hx9; replace hE := hE.ext hx9; have hEs : Ext w9 w9 := Upd.refl _; have hS0 := hx9.size; have hSB := SB6 (E := fun x => True) hh9; have hSA := SA6 (E := fun x => True) hh9; have hSO : ∀ b, b < w.heap.size → b < w8.heap.size ∧ (false = false → (fun x => True) b) := fun b hb => hSA b (Nat.lt_of_lt_of_le hb hE.size) (trivial); have hJs := hJ; refine R.move ?_; refine R.nilCheck rfl ?_; refine R.fld fa86_1 rfl ?_; refine R.loadB t84 hJ.blk rfl rfl rfl (hSA b901 hJs.blk.lt (trivial)) ?_; (iterate 2 refine R.move ?_); refine R.callE1 ent40 (first_ _ hJ hO.len) rfl (fun _ _ hb => Nat.lt_of_lt_of_le hb.1 (Nat.le_trans hS0 hEs.size)) ?_; rintro v27 w10 hx10 rfl; replace hJ := hJ.ext hx10; replace hE := hE.ext hx10; replace hEs := hEs.ext hx10; refine R.sub (m := n) (n := ((firstN j.live : Nat) : Int)) rfl rfl (by omega) (by omega) ?_; rw [show n - ((firstN j.live : Nat) : Int) = (m : Int) by omega]; refine R.ix (m := m) Try.underlying84 t106 (by decide) hJ.lv.row rfl rfl (by omega) ?_; refine R.fldE fa106_2 hJ.lv.row (by rw [recsC_len hJ.len]; omega) rfl ?_; refine R.load (u := (us.getD m undef)) t55 hJ.lv.row rfl (recs_cell hJ.len (by omega) 5 (by decide)) rfl (fun b e => hSA b (hJs.lv.lt b e) (trivial)) ?_; refine R.callE1 ent53 (clone_ _ (hJ.rows m (by omega)).row (by have := hb m hk; omega)) rfl (fun _ _ hb => Nat.lt_of_lt_of_le hb.1 (Nat.le_trans hS0 hEs.size)) ?_; rintro v32 w11 hx11 ⟨hS32, hF32⟩; replace hF32 := hF32.mono hE.size; replace hJ := hJ.ext hx11; replace hE := hE.ext hx11; replace hEs := hEs.ext hx11; (iterate 2 refine R.assign ?_); refine R.nil ?_; refine E.ret ?_; refine ret2 (v32) (.bool (true)) rfl rfl rfl ⟨_, rfl, ?_⟩; refine ⟨hE, ?_⟩; unfold GRes; rw [if_neg (by omega), show (n - ((firstN j.live : Nat) : Int)).toNat = m by omega]; exact ⟨v32, rfl, hS32, hF32⟩
end Go.Proofs.Ytlplogplicgfiaa
