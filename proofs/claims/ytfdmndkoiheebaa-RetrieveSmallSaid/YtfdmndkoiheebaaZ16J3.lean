import Derived.Test.YtfdmndkoiheebaaZ16J2
namespace Go.Proofs.Ytfdmndkoiheebaa
open Go Go.RowKit
def topL (xss : List (List Int)) (s : Int) : Int := if 0 ≤ s ∧ s < xss.length then ((xss.getD s.toNat []).getLast?).getD 0 else 0
theorem topL_at {xss : List (List Int)} {a : Nat} (ha : a < xss.length) (hl : 0 < xss[a].length) : topL xss a = xss[a][xss[a].length - 1] := by
  have : xss.getD a [] = xss[a] := by simp [ha]
  simp only [topL]
  rw [if_pos (by omega), Int.toNat_natCast, this, List.getLast?_eq_getElem?, List.getElem?_eq_getElem (by omega)]; rfl
theorem topL_empty {xss : List (List Int)} {a : Nat} (ha : a < xss.length) (hl : xss[a].length = 0) : topL xss a = 0 := by
  have : xss.getD a [] = [] := by simp [ha]; exact List.eq_nil_of_length_eq_zero hl
  simp only [topL]
  rw [if_pos (by omega), Int.toNat_natCast, this]; rfl
theorem topL_out {xss : List (List Int)} {s : Int} (h : s < 0 ∨ (xss.length : Int) ≤ s) : topL xss s = 0 := by unfold topL; rw [if_neg (by omega)]
theorem topL_pos {xss : List (List Int)} {f b : Int} (h : topL xss f = b) (hb : 1 ≤ b) : ∃ (a : Nat) (ha : a < xss.length) (hl : 0 < xss[a].length), f = a ∧ xss[a][xss[a].length - 1] = b := by
  rcases (show (f < 0 ∨ (xss.length : Int) ≤ f) ∨ (0 ≤ f ∧ f < xss.length) by omega) with h1 | h1
  · rw [topL_out h1] at h; omega
  · obtain ⟨a, rfl⟩ : ∃ a : Nat, f = a := ⟨f.toNat, by omega⟩
    have ha : a < xss.length := by omega
    rcases Nat.eq_zero_or_pos xss[a].length with h2 | h2
    · rw [topL_empty ha h2] at h; omega
    · exact ⟨a, ha, h2, rfl, by rw [← topL_at ha h2]; exact h⟩
def doL (xss : List (List Int)) (H : Nat) (ord : List Int) (nx : Nat) (s : Int × Int × Int) : Option (List (List Int) × Nat) :=
  if s.1 < 1 ∨ topL xss s.2.1 ≠ s.1 then none
  else if s.2.2 = -1 then (if nx = ord.length ∨ ord.getD nx 0 ≠ s.1 then none else some (xss.set s.2.1.toNat (xss.getD s.2.1.toNat []).dropLast, nx + 1))
  else if s.2.2 < 0 ∨ (xss.length : Int) ≤ s.2.2 ∨ s.2.2 = s.2.1 ∨ (xss.getD s.2.2.toNat []).length = H then none
  else some ((xss.set s.2.2.toNat (xss.getD s.2.2.toNat [] ++ [s.1])).set s.2.1.toNat (xss.getD s.2.1.toNat []).dropLast, nx)
theorem Ranks.upS {w w' : World} {rm : Nat} {ord : List Int} {ty' : TypeId} {k' m : Nat} {x : Value} {ds : List Value} (h : Ranks w rm ord) (u : Upd (fun b => vblk x = some b) w w') (hx : Sl w ty' k' x m ds) : Ranks w' rm ord := h.up u (fun e => by obtain ⟨c, q⟩ := hx.blk e; exact h.ne q rfl)
theorem top_ (w : World) {b900 H rm nx : Nat} {vs vo vt : Value} {us : List Value} {xss : List (List Int)} {s : Int} (hB900 : Blk w b900 108 #[vs, .int .i64 H, vo, .map (some rm), vt, .int .i64 nx]) (hm : Mat w vs us xss) (hx : ∀ xs ∈ xss, xs.length < 1000000) :
    Calls Try.prog 79 #[.pointer (some ⟨b900, 0, none⟩), .int .i64 s] w (Ret fun r w' => Ext w w' ∧ r = .int .i64 (topL xss s)) := by
  rcases (show s < 0 ∨ (0 ≤ s ∧ (xss.length : Int) ≤ s) ∨ (∃ a : Nat, s = a ∧ ∃ ha : a < xss.length, xss[a].length = 0) ∨ (∃ a : Nat, s = a ∧ ∃ ha : a < xss.length, 0 < xss[a].length) by
    rcases (show s < 0 ∨ (0 ≤ s ∧ (xss.length : Int) ≤ s) ∨ (0 ≤ s ∧ s < xss.length) by omega) with h | h | h
    · exact .inl h
    · exact .inr (.inl h)
    · have ha : s.toNat < xss.length := by omega
      rcases Nat.eq_zero_or_pos xss[s.toNat].length with h2 | h2
      · exact .inr (.inr (.inl ⟨s.toNat, by omega, ha, h2⟩))
      · exact .inr (.inr (.inr ⟨s.toNat, by omega, ha, h2⟩))) with hs | hs | ⟨a, rfl, ha, hs⟩ | ⟨a, rfl, ha, hs⟩
  · refine calls_E (args := [.pointer (some ⟨b900, 0, none⟩), .int .i64 s]) 45 Try.func79 rfl rfl (by simp) ?_
    have hE : Ext w w := Upd.refl w
    refine E.seq ?_
    refine E.regionP rfl ?_
    refine R.assign ?_
    refine R.nil ?_
    refine E.seq ?_
    refine E.seq ?_
    refine E.regionP rfl ?_
    refine R.move ?_
    refine R.lss (b := true) rfl rfl (decide_eq_true (hs)) ?_
    refine R.move ?_
    refine R.gF rfl rfl rfl ?_
    refine R.gF rfl rfl rfl ?_
    refine R.gF rfl rfl rfl ?_
    refine R.gF rfl rfl rfl ?_
    refine R.gF rfl rfl rfl ?_
    refine R.gF rfl rfl rfl ?_
    refine R.gF rfl rfl rfl ?_
    refine R.pickT rfl ?_
    refine R.move ?_
    refine R.gF rfl rfl rfl ?_
    refine R.gF rfl rfl rfl ?_
    refine R.gF rfl rfl rfl ?_
    refine R.gF rfl rfl rfl ?_
    refine R.gF rfl rfl rfl ?_
    refine R.gF rfl rfl rfl ?_
    refine R.gF rfl rfl rfl ?_
    refine R.gF rfl rfl rfl ?_
    refine R.gF rfl rfl rfl ?_
    refine R.pickT rfl ?_
    refine R.nil ?_
    refine E.condT rfl ?_
    refine E.seq ?_
    refine E.regionP rfl ?_
    refine R.assign ?_
    refine R.nil ?_
    refine E.ret ?_
    exact ret1 (.int .i64 0) rfl rfl ⟨_, rfl, hE, by rw [topL_out (by omega)]⟩
  · refine calls_E (args := [.pointer (some ⟨b900, 0, none⟩), .int .i64 s]) 45 Try.func79 rfl rfl (by simp) ?_
    have hE : Ext w w := Upd.refl w
    refine E.seq ?_
    refine E.regionP rfl ?_
    refine R.assign ?_
    refine R.nil ?_
    refine E.seq ?_
    refine E.seq ?_
    refine E.regionP rfl ?_
    refine R.move ?_
    refine R.lss (b := false) rfl rfl (decide_eq_false (by omega)) ?_
    refine R.move ?_
    refine R.gT rfl rfl ?_
    refine R.move ?_
    refine R.gT rfl rfl ?_
    refine R.move ?_
    refine R.gT rfl rfl ?_
    refine R.nilCheck rfl ?_
    refine R.gT rfl rfl ?_
    refine R.fld fa108_0 rfl ?_
    refine R.gT rfl rfl ?_
    refine R.loadB t22 hB900 rfl rfl rfl trivial ?_
    refine R.gT rfl rfl ?_
    refine R.len Try.underlying22 hm.row rfl ?_
    refine R.gT rfl rfl ?_
    refine R.geq (b := true) rfl rfl (decide_eq_true (by omega)) ?_
    refine R.pickF rfl ?_
    refine R.move ?_
    refine R.gF rfl rfl rfl ?_
    refine R.gF rfl rfl rfl ?_
    refine R.gF rfl rfl rfl ?_
    refine R.gF rfl rfl rfl ?_
    refine R.gF rfl rfl rfl ?_
    refine R.gF rfl rfl rfl ?_
    refine R.gF rfl rfl rfl ?_
    refine R.gF rfl rfl rfl ?_
    refine R.gF rfl rfl rfl ?_
    refine R.pickT rfl ?_
    refine R.nil ?_
    refine E.condT rfl ?_
    refine E.seq ?_
    refine E.regionP rfl ?_
    refine R.assign ?_
    refine R.nil ?_
    refine E.ret ?_
    exact ret1 (.int .i64 0) rfl rfl ⟨_, rfl, hE, by rw [topL_out (by omega)]⟩
  · refine calls_E (args := [.pointer (some ⟨b900, 0, none⟩), .int .i64 (a : Nat)]) 45 Try.func79 rfl rfl (by simp) ?_
    have hE : Ext w w := Upd.refl w
    refine E.seq ?_
    refine E.regionP rfl ?_
    refine R.assign ?_
    refine R.nil ?_
    refine E.seq ?_
    refine E.seq ?_
    refine E.regionP rfl ?_
    refine R.move ?_
    refine R.lss (b := false) rfl rfl (decide_eq_false (by omega)) ?_
    refine R.move ?_
    refine R.gT rfl rfl ?_
    refine R.move ?_
    refine R.gT rfl rfl ?_
    refine R.move ?_
    refine R.gT rfl rfl ?_
    refine R.nilCheck rfl ?_
    refine R.gT rfl rfl ?_
    refine R.fld fa108_0 rfl ?_
    refine R.gT rfl rfl ?_
    refine R.loadB t22 hB900 rfl rfl rfl trivial ?_
    refine R.gT rfl rfl ?_
    refine R.len Try.underlying22 hm.row rfl ?_
    refine R.gT rfl rfl ?_
    refine R.geq (b := false) rfl rfl (decide_eq_false (by omega)) ?_
    refine R.pickF rfl ?_
    refine R.move ?_
    refine R.gT rfl rfl ?_
    refine R.move ?_
    refine R.gT rfl rfl ?_
    refine R.nilCheck rfl ?_
    refine R.gT rfl rfl ?_
    refine R.fld fa108_0 rfl ?_
    refine R.gT rfl rfl ?_
    refine R.loadB t22 hB900 rfl rfl rfl trivial ?_
    refine R.gT rfl rfl ?_
    refine R.move ?_
    refine R.gT rfl rfl ?_
    refine R.ix Try.underlying22 t35 (by decide) hm.row rfl rfl ha ?_
    refine R.gT rfl rfl ?_
    obtain ⟨u23, hu23, hr23⟩ := hm.get a (by omega)
    refine R.ld t35 (hm.row.ext hE) rfl hu23 rfl (fun _ _ => trivial) ?_
    refine R.gT rfl rfl ?_
    refine R.len Try.underlying35 hr23 rfl ?_
    refine R.gT rfl rfl ?_
    refine R.eql (b := true) rfl rfl (decide_eq_true (by omega)) ?_
    refine R.pickF rfl ?_
    refine R.nil ?_
    refine E.condT rfl ?_
    refine E.seq ?_
    refine E.regionP rfl ?_
    refine R.assign ?_
    refine R.nil ?_
    refine E.ret ?_
    exact ret1 (.int .i64 0) rfl rfl ⟨_, rfl, hE, by rw [topL_empty ha hs]⟩
  · refine calls_E (args := [.pointer (some ⟨b900, 0, none⟩), .int .i64 (a : Nat)]) 45 Try.func79 rfl rfl (by simp) ?_
    have hE : Ext w w := Upd.refl w
    refine E.seq ?_
    refine E.regionP rfl ?_
    refine R.assign ?_
    refine R.nil ?_
    refine E.seq ?_
    refine E.seq ?_
    refine E.regionP rfl ?_
    refine R.move ?_
    refine R.lss (b := false) rfl rfl (decide_eq_false (by omega)) ?_
    refine R.move ?_
    refine R.gT rfl rfl ?_
    refine R.move ?_
    refine R.gT rfl rfl ?_
    refine R.move ?_
    refine R.gT rfl rfl ?_
    refine R.nilCheck rfl ?_
    refine R.gT rfl rfl ?_
    refine R.fld fa108_0 rfl ?_
    refine R.gT rfl rfl ?_
    refine R.loadB t22 hB900 rfl rfl rfl trivial ?_
    refine R.gT rfl rfl ?_
    refine R.len Try.underlying22 hm.row rfl ?_
    refine R.gT rfl rfl ?_
    refine R.geq (b := false) rfl rfl (decide_eq_false (by omega)) ?_
    refine R.pickF rfl ?_
    refine R.move ?_
    refine R.gT rfl rfl ?_
    refine R.move ?_
    refine R.gT rfl rfl ?_
    refine R.nilCheck rfl ?_
    refine R.gT rfl rfl ?_
    refine R.fld fa108_0 rfl ?_
    refine R.gT rfl rfl ?_
    refine R.loadB t22 hB900 rfl rfl rfl trivial ?_
    refine R.gT rfl rfl ?_
    refine R.move ?_
    refine R.gT rfl rfl ?_
    refine R.ix Try.underlying22 t35 (by decide) hm.row rfl rfl ha ?_
    refine R.gT rfl rfl ?_
    obtain ⟨u23, hu23, hr23⟩ := hm.get a (by omega)
    refine R.ld t35 (hm.row.ext hE) rfl hu23 rfl (fun _ _ => trivial) ?_
    refine R.gT rfl rfl ?_
    refine R.len Try.underlying35 hr23 rfl ?_
    refine R.gT rfl rfl ?_
    refine R.eql (b := false) rfl rfl (decide_eq_false (by omega)) ?_
    refine R.pickF rfl ?_
    refine R.nil ?_
    refine E.condF rfl ?_
    refine E.skip ?_
    refine E.seq ?_
    refine E.regionW allS [] mixed rfl (by kernel_rfl) ?_
    intro w1 hx1 hh1
    replace hB900 := hB900.ext hx1
    replace hE := hE.ext hx1
    refine R.move ?_
    refine R.nilCheck rfl ?_
    refine R.fld fa108_0 rfl ?_
    refine R.loadB t22 hB900 rfl rfl rfl trivial ?_
    refine R.move ?_
    refine R.ix Try.underlying22 t35 (by decide) hm.row rfl rfl ha ?_
    obtain ⟨u33, hu33, hr33⟩ := hm.get a (by omega)
    refine R.ld t35 (hm.row.ext hE) rfl hu33 rfl (fun _ _ => trivial) ?_
    refine R.move ?_
    refine R.nilCheck rfl ?_
    refine R.fld fa108_0 rfl ?_
    refine R.loadB t22 hB900 rfl rfl rfl trivial ?_
    refine R.move ?_
    refine R.ix Try.underlying22 t35 (by decide) hm.row rfl rfl ha ?_
    obtain ⟨u40, hu40, hr40⟩ := hm.get a (by omega)
    refine R.ld t35 (hm.row.ext hE) rfl hu40 rfl (fun _ _ => trivial) ?_
    refine R.len Try.underlying35 hr40 rfl ?_
    have hxa := hx _ (List.getElem_mem ha)
    refine R.subN (m := xss[a].length) (n := 1) rfl rfl (by omega) (by omega) ?_
    refine R.ix (m := xss[a].length - 1) Try.underlying35 t3 (by decide) hr33 rfl rfl (by omega) ?_
    refine R.ld (j := xss[a].length - 1) t3 (hr33.ext hE) rfl (int_at (by omega)) rfl (fun _ _ => trivial) ?_
    refine R.assign ?_
    refine R.nil ?_
    refine E.ret ?_
    exact ret1 (.int .i64 xss[a][xss[a].length - 1]) rfl rfl ⟨_, rfl, hE, by rw [topL_at ha hs]⟩
theorem Job.ext2 {w0 w w' : World} {bj : Nat} {vs : Value} {us : List Value} {vo : Value} {rm : Nat} {vt : Value} {xss : List (List Int)} {H : Nat} {ord : List Int} {ss : List (Int × Int × Int)} {nx : Nat} (h : Job w0 w bj vs us vo rm vt xss H ord ss nx) (u : Upd (JB bj vs us vt) w w') : Ext w0 w' :=
  h.ext.trans u fun b hb hx => by have := h.ge hx; omega
def Sub (N : Nat) (us : List Value) (vt : Value) (us' : List Value) (vt' : Value) : Prop := (∀ x, (∃ y ∈ us', vblk y = some x) → (∃ y ∈ us, vblk y = some x) ∨ N ≤ x) ∧ ∀ x, vblk vt' = some x → vblk vt = some x ∨ N ≤ x
theorem sub_refl {N : Nat} {us : List Value} : ∀ x, (∃ y ∈ us, vblk y = some x) → (∃ y ∈ us, vblk y = some x) ∨ N ≤ x := fun _ h => .inl h
theorem sub_set {N i : Nat} {us us0 : List Value} {u u' : Value} (h0 : ∀ x, (∃ y ∈ us, vblk y = some x) → (∃ y ∈ us0, vblk y = some x) ∨ N ≤ x) (hu : us[i]? = some u) (h : ∀ x, vblk u' = some x → vblk u = some x ∨ N ≤ x) : ∀ x, (∃ y ∈ us.set i u', vblk y = some x) → (∃ y ∈ us0, vblk y = some x) ∨ N ≤ x := by
  rintro x ⟨y, hy, e⟩
  rcases List.mem_or_eq_of_mem_set hy with hy | rfl
  · exact h0 x ⟨y, hy, e⟩
  · rcases h x e with e | e
    · exact h0 x ⟨u, List.mem_of_getElem? hu, e⟩
    · exact .inr e
theorem Sub.jb {N bj : Nat} {vs vt vt' : Value} {us us' : List Value} (h : Sub N us vt us' vt') {x : Nat} (hx : JB bj vs us' vt' x) : JB bj vs us vt x ∨ N ≤ x := by
  rcases hx with rfl | hx | hx | hx
  · exact .inl (.inl rfl)
  · exact .inl (.inr (.inl hx))
  · rcases h.1 x hx with e | e
    · exact .inl (.inr (.inr (.inl e)))
    · exact .inr e
  · rcases h.2 x hx with e | e
    · exact .inl (.inr (.inr (.inr e)))
    · exact .inr e
theorem Sub.trans {N N' : Nat} {vt vt' vt'' : Value} {us us' us'' : List Value} (h : Sub N us vt us' vt') (h' : Sub N' us' vt' us'' vt'') (hn : N ≤ N') : Sub N us vt us'' vt'' :=
  ⟨fun x hx => (h'.1 x hx).elim (h.1 x) (fun e => .inr (Nat.le_trans hn e)), fun x hx => (h'.2 x hx).elim (h.2 x) (fun e => .inr (Nat.le_trans hn e))⟩
theorem Sub.refl {N : Nat} {us : List Value} {vt : Value} : Sub N us vt us vt := ⟨fun _ h => .inl h, fun _ h => .inl h⟩
def DoRes2 (w w0 w' : World) (r : Value) (bj : Nat) (vs : Value) (us : List Value) (vo : Value) (rm : Nat) (vt : Value) (xss : List (List Int)) (H : Nat) (ord : List Int) (ss : List (Int × Int × Int)) (nx : Nat) (s : Int × Int × Int) : Prop :=
  match doL xss H ord nx s with
  | none => r = .bool false ∧ Job w0 w' bj vs us vo rm vt xss H ord ss nx
  | some (ys, n') => r = .bool true ∧ ∃ us' vt', Job w0 w' bj vs us' vo rm vt' ys H ord (ss ++ [s]) n' ∧ Sub w.heap.size us vt us' vt'
def DoRes (w0 w' : World) (r : Value) (bj : Nat) (vs : Value) (us : List Value) (vo : Value) (rm : Nat) (vt : Value) (xss : List (List Int)) (H : Nat) (ord : List Int) (ss : List (Int × Int × Int)) (nx : Nat) (s : Int × Int × Int) : Prop :=
  match doL xss H ord nx s with
  | none => r = .bool false ∧ Job w0 w' bj vs us vo rm vt xss H ord ss nx
  | some (ys, n') => r = .bool true ∧ ∃ us' vt', Job w0 w' bj vs us' vo rm vt' ys H ord (ss ++ [s]) n'
theorem DoRes2.no {w w0 w' : World} {r : Value} {bj : Nat} {vs : Value} {us : List Value} {vo : Value} {rm : Nat} {vt : Value} {xss : List (List Int)} {H : Nat} {ord : List Int} {ss : List (Int × Int × Int)} {nx : Nat} {s : Int × Int × Int} (h : doL xss H ord nx s = none) (hr : r = .bool false) (hJ : Job w0 w' bj vs us vo rm vt xss H ord ss nx) : DoRes2 w w0 w' r bj vs us vo rm vt xss H ord ss nx s := by
  unfold DoRes2; rw [h]; exact ⟨hr, hJ⟩
theorem DoRes2.yes {w w0 w' : World} {r : Value} {bj : Nat} {vs : Value} {us us' : List Value} {vo : Value} {rm n' : Nat} {vt vt' : Value} {xss ys : List (List Int)} {H : Nat} {ord : List Int} {ss : List (Int × Int × Int)} {nx : Nat} {s : Int × Int × Int} (h : doL xss H ord nx s = some (ys, n')) (hr : r = .bool true) (hJ : Job w0 w' bj vs us' vo rm vt' ys H ord (ss ++ [s]) n') (hs : Sub w.heap.size us vt us' vt') : DoRes2 w w0 w' r bj vs us vo rm vt xss H ord ss nx s := by
  unfold DoRes2; rw [h]; exact ⟨hr, us', vt', hJ, hs⟩
theorem DoRes2.weak {w w0 w' : World} {r : Value} {bj : Nat} {vs : Value} {us : List Value} {vo : Value} {rm : Nat} {vt : Value} {xss : List (List Int)} {H : Nat} {ord : List Int} {ss : List (Int × Int × Int)} {nx : Nat} {s : Int × Int × Int} (h : DoRes2 w w0 w' r bj vs us vo rm vt xss H ord ss nx s) : DoRes w0 w' r bj vs us vo rm vt xss H ord ss nx s := by
  unfold DoRes2 at h; unfold DoRes
  split at h
  · exact h
  · obtain ⟨h1, us', vt', h2, _⟩ := h; exact ⟨h1, us', vt', h2⟩
theorem MS.upS {w0 w w' : World} {v x : Value} {us : List Value} {xss : List (List Int)} {ty' : TypeId} {k' m : Nat} {ds : List Value} (h : MS w0 w v us xss) (u : Upd (fun b => vblk x = some b) w w') (hx : Sl w ty' k' x m ds) (hne : 35 ≠ ty' ∧ 3 ≠ ty') : MS w0 w' v us xss :=
  ⟨⟨h.outer.upS u hx hne.1, fun i hi => by obtain ⟨y, q1, q2⟩ := h.mo.elems i hi; exact ⟨y, q1, q2.upS u hx hne.2⟩⟩, h.f, h.fs, h.sep⟩
set_option maxHeartbeats 6400000 in
theorem do2_ (w0 w : World) {b900 H rm nx : Nat} {vs vo vt : Value} {us : List Value} {xss : List (List Int)} {ord : List Int} {ss : List (Int × Int × Int)} {b f t : Int} (hJ : Job w0 w b900 vs us vo rm vt xss H ord ss nx) (hl : xss.length ≤ 30) (hx : ∀ xs ∈ xss, xs.length ≤ 6) (hnx : nx ≤ ord.length) (hol : ord.length < 1000000) (hsl : ss.length < 1000000) :
    Calls Try.prog 76 #[.pointer (some ⟨b900, 0, none⟩), .agg #[.int .i64 b, .int .i64 f, .int .i64 t]] w (Ret fun r w' => Upd (JB b900 vs us vt) w w' ∧ DoRes2 w w0 w' r b900 vs us vo rm vt xss H ord ss nx (b, f, t)) := by
  have hB900 := hJ.blk
  have hM := hJ.ms
  have hrk := hJ.ranks
  have hst := hJ.steps
  have ho := hJ.ordI.ext hJ.ext
  have hx6 : ∀ xs ∈ xss, xs.length < 1000000 := fun xs h => by have := hx xs h; omega
  rcases (show b < 1 ∨ (1 ≤ b ∧ topL xss f ≠ b) ∨ (1 ≤ b ∧ topL xss f = b) by omega) with hb1 | ⟨hb1, htop⟩ | ⟨hb1, htop⟩
  rotate_left
  rotate_left
  obtain ⟨a, ha, hla, rfl, hlast⟩ := topL_pos htop hb1
  have hxa := hx _ (List.getElem_mem ha)
  have hga : xss.getD a [] = xss[a] := by simp [ha]
  rcases (show (t = -1 ∧ nx = ord.length) ∨ (t = -1 ∧ nx < ord.length ∧ ord.getD nx 0 ≠ b) ∨ (t = -1 ∧ nx < ord.length ∧ ord.getD nx 0 = b) ∨ (t < 0 ∧ t ≠ -1) ∨ (0 ≤ t ∧ (xss.length : Int) ≤ t) ∨ (0 ≤ t ∧ t < xss.length ∧ t = a) ∨ (0 ≤ t ∧ t < xss.length ∧ t ≠ a) by omega) with ⟨rfl, hn⟩ | ⟨rfl, hn, hob⟩ | ⟨rfl, hn, hob⟩ | ⟨ht, ht1⟩ | ⟨ht, ht1⟩ | ⟨ht, ht1, hta⟩ | ⟨ht, ht1, hta⟩
  · refine calls_E (args := [.pointer (some ⟨b900, 0, none⟩), .agg #[.int .i64 (b), .int .i64 ((a : Nat)), .int .i64 (-1)]]) 143 Try.func76 rfl rfl (by simp) ?_
    have hE : Upd (JB b900 vs us vt) w w := Upd.refl w
    refine E.seq ?_
    refine E.regionP rfl ?_
    refine R.box rfl nofun ?_
    intro b3 w1 hb3 hx1 hB3
    replace hb3 := Nat.le_trans hE.size hb3
    replace hM := hM.ext hx1
    replace hst := hst.ext hx1
    replace hrk := hrk.ext hx1
    replace hB900 := hB900.ext hx1
    replace hE := hE.ext hx1
    replace hB3 : Blk _ b3 68 #[.int .i64 (b), .int .i64 ((a : Nat)), .int .i64 (-1)] := hB3
    refine R.assign ?_
    refine R.nil ?_
    refine E.seq ?_
    refine E.seq ?_
    refine E.regionW (fun _ b => b < w1.heap.size) [] mixed rfl (by kernel_rfl) ?_
    intro w2 hx2 hh2
    replace hM := hM.ext hx2
    replace hst := hst.ext hx2
    replace hrk := hrk.ext hx2
    replace hB900 := hB900.ext hx2
    replace hB3 := hB3.ext hx2
    replace hE := hE.ext hx2
    have hEs : Ext w2 w2 := Upd.refl _
    have hS0 := hx2.size
    have hSs : ∀ b, b < w2.heap.size → b < w1.heap.size := fun b hb => by rw [hh2] at hb; exact hb
    have hSa : ∀ b, b < w.heap.size → b < w1.heap.size := fun b hb => by have := hE.size; rw [hh2] at this; omega
    have hMs := hM
    have hsts := hst
    have hrks := hrk
    have hB900s := hB900
    have hB3s := hB3
    refine R.fld fa68_0 rfl ?_
    refine R.loadBE t3 hB3s hEs rfl rfl rfl hSs ?_
    refine R.lss (b := false) rfl rfl (decide_eq_false (by omega)) ?_
    refine R.move ?_
    refine R.gT rfl rfl ?_
    refine R.move ?_
    refine R.gT rfl rfl ?_
    refine R.fld fa68_1 rfl ?_
    refine R.gT rfl rfl ?_
    refine R.loadBE t3 hB3s hEs rfl rfl rfl hSs ?_
    refine R.gT rfl rfl ?_
    refine R.callE2 ent79 (top_ _ hB900 hM.mat hx6) rfl rfl (fun _ _ hb => Nat.lt_of_lt_of_le hb (Nat.le_trans hS0 hEs.size)) ?_
    rintro v12 w3 hx3 rfl
    replace hM := hM.ext hx3
    replace hst := hst.ext hx3
    replace hrk := hrk.ext hx3
    replace hB900 := hB900.ext hx3
    replace hB3 := hB3.ext hx3
    replace hE := hE.ext hx3
    replace hEs := hEs.ext hx3
    refine R.gT rfl rfl ?_
    refine R.fld fa68_0 rfl ?_
    refine R.gT rfl rfl ?_
    refine R.loadBE t3 hB3s hEs rfl rfl rfl hSs ?_
    refine R.gT rfl rfl ?_
    refine R.neq (b := false) rfl rfl (by simp [htop]) ?_
    refine R.pickF rfl ?_
    refine R.nil ?_
    refine E.condF rfl ?_
    refine E.skip ?_
    refine E.seq ?_
    refine E.seq ?_
    refine E.regionP rfl ?_
    refine R.fld fa68_2 rfl ?_
    refine R.loadB t3 hB3 rfl rfl rfl trivial ?_
    refine R.eql (b := true) rfl rfl (by simp) ?_
    refine R.nil ?_
    refine E.condT rfl ?_
    refine E.seq ?_
    refine E.seq ?_
    refine E.regionW allS [] mixed rfl (by kernel_rfl) ?_
    intro w4 hx4 hh4
    replace hM := hM.ext hx4
    replace hst := hst.ext hx4
    replace hrk := hrk.ext hx4
    replace hB900 := hB900.ext hx4
    replace hB3 := hB3.ext hx4
    replace hE := hE.ext hx4
    refine R.move ?_
    refine R.nilCheck rfl ?_
    refine R.fld fa108_5 rfl ?_
    refine R.loadB t3 hB900 rfl rfl rfl trivial ?_
    refine R.move ?_
    refine R.nilCheck rfl ?_
    refine R.fld fa108_2 rfl ?_
    refine R.loadB t35 hB900 rfl rfl rfl trivial ?_
    refine R.len Try.underlying35 ho rfl ?_
    refine R.eql (b := true) rfl rfl (by simp [hn]) ?_
    refine R.move ?_
    refine R.gF rfl rfl rfl ?_
    refine R.gF rfl rfl rfl ?_
    refine R.gF rfl rfl rfl ?_
    refine R.gF rfl rfl rfl ?_
    refine R.gF rfl rfl rfl ?_
    refine R.gF rfl rfl rfl ?_
    refine R.gF rfl rfl rfl ?_
    refine R.gF rfl rfl rfl ?_
    refine R.gF rfl rfl rfl ?_
    refine R.gF rfl rfl rfl ?_
    refine R.gF rfl rfl rfl ?_
    refine R.gF rfl rfl rfl ?_
    refine R.gF rfl rfl rfl ?_
    refine R.pickT rfl ?_
    refine R.nil ?_
    refine E.condT rfl ?_
    refine E.seq ?_
    refine E.regionP rfl ?_
    refine R.assign ?_
    refine R.nil ?_
    refine E.ret ?_
    exact ret1 (.bool false) rfl rfl ⟨_, rfl, hE, DoRes2.no (by simp only [doL]; rw [if_neg (by omega), if_pos trivial, if_pos (.inl hn)]) rfl ⟨hB900, hM, hJ.ordI, hrk, hst, hJ.ft, hJ.fb, hJ.fm, hJ.ext2 hE⟩⟩
  · refine calls_E (args := [.pointer (some ⟨b900, 0, none⟩), .agg #[.int .i64 (b), .int .i64 ((a : Nat)), .int .i64 (-1)]]) 143 Try.func76 rfl rfl (by simp) ?_
    have hE : Upd (JB b900 vs us vt) w w := Upd.refl w
    refine E.seq ?_
    refine E.regionP rfl ?_
    refine R.box rfl nofun ?_
    intro b3 w1 hb3 hx1 hB3
    replace hb3 := Nat.le_trans hE.size hb3
    replace hM := hM.ext hx1
    replace hst := hst.ext hx1
    replace hrk := hrk.ext hx1
    replace hB900 := hB900.ext hx1
    replace hE := hE.ext hx1
    replace hB3 : Blk _ b3 68 #[.int .i64 (b), .int .i64 ((a : Nat)), .int .i64 (-1)] := hB3
    refine R.assign ?_
    refine R.nil ?_
    refine E.seq ?_
    refine E.seq ?_
    refine E.regionW (fun _ b => b < w1.heap.size) [] mixed rfl (by kernel_rfl) ?_
    intro w2 hx2 hh2
    replace hM := hM.ext hx2
    replace hst := hst.ext hx2
    replace hrk := hrk.ext hx2
    replace hB900 := hB900.ext hx2
    replace hB3 := hB3.ext hx2
    replace hE := hE.ext hx2
    have hEs : Ext w2 w2 := Upd.refl _
    have hS0 := hx2.size
    have hSs : ∀ b, b < w2.heap.size → b < w1.heap.size := fun b hb => by rw [hh2] at hb; exact hb
    have hSa : ∀ b, b < w.heap.size → b < w1.heap.size := fun b hb => by have := hE.size; rw [hh2] at this; omega
    have hMs := hM
    have hsts := hst
    have hrks := hrk
    have hB900s := hB900
    have hB3s := hB3
    refine R.fld fa68_0 rfl ?_
    refine R.loadBE t3 hB3s hEs rfl rfl rfl hSs ?_
    refine R.lss (b := false) rfl rfl (decide_eq_false (by omega)) ?_
    refine R.move ?_
    refine R.gT rfl rfl ?_
    refine R.move ?_
    refine R.gT rfl rfl ?_
    refine R.fld fa68_1 rfl ?_
    refine R.gT rfl rfl ?_
    refine R.loadBE t3 hB3s hEs rfl rfl rfl hSs ?_
    refine R.gT rfl rfl ?_
    refine R.callE2 ent79 (top_ _ hB900 hM.mat hx6) rfl rfl (fun _ _ hb => Nat.lt_of_lt_of_le hb (Nat.le_trans hS0 hEs.size)) ?_
    rintro v12 w3 hx3 rfl
    replace hM := hM.ext hx3
    replace hst := hst.ext hx3
    replace hrk := hrk.ext hx3
    replace hB900 := hB900.ext hx3
    replace hB3 := hB3.ext hx3
    replace hE := hE.ext hx3
    replace hEs := hEs.ext hx3
    refine R.gT rfl rfl ?_
    refine R.fld fa68_0 rfl ?_
    refine R.gT rfl rfl ?_
    refine R.loadBE t3 hB3s hEs rfl rfl rfl hSs ?_
    refine R.gT rfl rfl ?_
    refine R.neq (b := false) rfl rfl (by simp [htop]) ?_
    refine R.pickF rfl ?_
    refine R.nil ?_
    refine E.condF rfl ?_
    refine E.skip ?_
    refine E.seq ?_
    refine E.seq ?_
    refine E.regionP rfl ?_
    refine R.fld fa68_2 rfl ?_
    refine R.loadB t3 hB3 rfl rfl rfl trivial ?_
    refine R.eql (b := true) rfl rfl (by simp) ?_
    refine R.nil ?_
    refine E.condT rfl ?_
    refine E.seq ?_
    refine E.seq ?_
    refine E.regionW allS [] mixed rfl (by kernel_rfl) ?_
    intro w4 hx4 hh4
    replace hM := hM.ext hx4
    replace hst := hst.ext hx4
    replace hrk := hrk.ext hx4
    replace hB900 := hB900.ext hx4
    replace hB3 := hB3.ext hx4
    replace hE := hE.ext hx4
    refine R.move ?_
    refine R.nilCheck rfl ?_
    refine R.fld fa108_5 rfl ?_
    refine R.loadB t3 hB900 rfl rfl rfl trivial ?_
    refine R.move ?_
    refine R.nilCheck rfl ?_
    refine R.fld fa108_2 rfl ?_
    refine R.loadB t35 hB900 rfl rfl rfl trivial ?_
    refine R.len Try.underlying35 ho rfl ?_
    refine R.eql (b := false) rfl rfl (by simp; omega) ?_
    refine R.move ?_
    refine R.gT rfl rfl ?_
    refine R.move ?_
    refine R.gT rfl rfl ?_
    refine R.nilCheck rfl ?_
    refine R.gT rfl rfl ?_
    refine R.fld fa108_2 rfl ?_
    refine R.gT rfl rfl ?_
    refine R.loadB t35 hB900 rfl rfl rfl trivial ?_
    refine R.gT rfl rfl ?_
    refine R.move ?_
    refine R.gT rfl rfl ?_
    refine R.nilCheck rfl ?_
    refine R.gT rfl rfl ?_
    refine R.fld fa108_5 rfl ?_
    refine R.gT rfl rfl ?_
    refine R.loadB t3 hB900 rfl rfl rfl trivial ?_
    refine R.gT rfl rfl ?_
    refine R.ix (m := nx) Try.underlying35 t3 (by decide) hJ.ordI rfl rfl (by omega) ?_
    refine R.gT rfl rfl ?_
    refine R.ld (j := nx) t3 (hJ.ordI.ext (hJ.ext2 hE)) rfl (int_at (by omega)) rfl (fun _ _ => trivial) ?_
    refine R.gT rfl rfl ?_
    refine R.fld fa68_0 rfl ?_
    refine R.gT rfl rfl ?_
    refine R.loadB t3 hB3 rfl rfl rfl trivial ?_
    refine R.gT rfl rfl ?_
    refine R.neq (b := true) rfl rfl (by simpa [hn] using hob) ?_
    refine R.pickF rfl ?_
    refine R.nil ?_
    refine E.condT rfl ?_
    refine E.seq ?_
    refine E.regionP rfl ?_
    refine R.assign ?_
    refine R.nil ?_
    refine E.ret ?_
    exact ret1 (.bool false) rfl rfl ⟨_, rfl, hE, DoRes2.no (by simp only [doL]; rw [if_neg (by omega), if_pos trivial, if_pos (.inr hob)]) rfl ⟨hB900, hM, hJ.ordI, hrk, hst, hJ.ft, hJ.fb, hJ.fm, hJ.ext2 hE⟩⟩
  · have hdo : doL xss H ord nx (b, ((a : Nat) : Int), -1) = some (xss.set a xss[a].dropLast, nx + 1) := by
      simp only [doL]
      rw [if_neg (by omega), if_pos trivial, if_neg (by omega), Int.toNat_natCast, hga]
    have hob : ord[nx] = b := by simpa [hn] using hob
    refine calls_E (args := [.pointer (some ⟨b900, 0, none⟩), .agg #[.int .i64 (b), .int .i64 ((a : Nat)), .int .i64 (-1)]]) 143 Try.func76 rfl rfl (by simp) ?_
    have hE : Upd (JB b900 vs us vt) w w := Upd.refl w
    refine E.seq ?_
    refine E.regionP rfl ?_
    refine R.box rfl nofun ?_
    intro b3 w1 hb3 hx1 hB3
    replace hb3 := Nat.le_trans hE.size hb3
    replace hM := hM.ext hx1
    replace hst := hst.ext hx1
    replace hrk := hrk.ext hx1
    replace hB900 := hB900.ext hx1
    replace hE := hE.ext hx1
    replace hB3 : Blk _ b3 68 #[.int .i64 (b), .int .i64 ((a : Nat)), .int .i64 (-1)] := hB3
    refine R.assign ?_
    refine R.nil ?_
    refine E.seq ?_
    refine E.seq ?_
    refine E.regionW (fun _ b => b < w1.heap.size) [] mixed rfl (by kernel_rfl) ?_
    intro w2 hx2 hh2
    replace hM := hM.ext hx2
    replace hst := hst.ext hx2
    replace hrk := hrk.ext hx2
    replace hB900 := hB900.ext hx2
    replace hB3 := hB3.ext hx2
    replace hE := hE.ext hx2
    have hEs : Ext w2 w2 := Upd.refl _
    have hS0 := hx2.size
    have hSs : ∀ b, b < w2.heap.size → b < w1.heap.size := fun b hb => by rw [hh2] at hb; exact hb
    have hSa : ∀ b, b < w.heap.size → b < w1.heap.size := fun b hb => by have := hE.size; rw [hh2] at this; omega
    have hMs := hM
    have hsts := hst
    have hrks := hrk
    have hB900s := hB900
    have hB3s := hB3
    refine R.fld fa68_0 rfl ?_
    refine R.loadBE t3 hB3s hEs rfl rfl rfl hSs ?_
    refine R.lss (b := false) rfl rfl (decide_eq_false (by omega)) ?_
    refine R.move ?_
    refine R.gT rfl rfl ?_
    refine R.move ?_
    refine R.gT rfl rfl ?_
    refine R.fld fa68_1 rfl ?_
    refine R.gT rfl rfl ?_
    refine R.loadBE t3 hB3s hEs rfl rfl rfl hSs ?_
    refine R.gT rfl rfl ?_
    refine R.callE2 ent79 (top_ _ hB900 hM.mat hx6) rfl rfl (fun _ _ hb => Nat.lt_of_lt_of_le hb (Nat.le_trans hS0 hEs.size)) ?_
    rintro v12 w3 hx3 rfl
    replace hM := hM.ext hx3
    replace hst := hst.ext hx3
    replace hrk := hrk.ext hx3
    replace hB900 := hB900.ext hx3
    replace hB3 := hB3.ext hx3
    replace hE := hE.ext hx3
    replace hEs := hEs.ext hx3
    refine R.gT rfl rfl ?_
    refine R.fld fa68_0 rfl ?_
    refine R.gT rfl rfl ?_
    refine R.loadBE t3 hB3s hEs rfl rfl rfl hSs ?_
    refine R.gT rfl rfl ?_
    refine R.neq (b := false) rfl rfl (by simp [htop]) ?_
    refine R.pickF rfl ?_
    refine R.nil ?_
    refine E.condF rfl ?_
    refine E.skip ?_
    refine E.seq ?_
    refine E.seq ?_
    refine E.regionP rfl ?_
    refine R.fld fa68_2 rfl ?_
    refine R.loadB t3 hB3 rfl rfl rfl trivial ?_
    refine R.eql (b := true) rfl rfl (by simp) ?_
    refine R.nil ?_
    refine E.condT rfl ?_
    refine E.seq ?_
    refine E.seq ?_
    refine E.regionW allS [] mixed rfl (by kernel_rfl) ?_
    intro w4 hx4 hh4
    replace hM := hM.ext hx4
    replace hst := hst.ext hx4
    replace hrk := hrk.ext hx4
    replace hB900 := hB900.ext hx4
    replace hB3 := hB3.ext hx4
    replace hE := hE.ext hx4
    refine R.move ?_
    refine R.nilCheck rfl ?_
    refine R.fld fa108_5 rfl ?_
    refine R.loadB t3 hB900 rfl rfl rfl trivial ?_
    refine R.move ?_
    refine R.nilCheck rfl ?_
    refine R.fld fa108_2 rfl ?_
    refine R.loadB t35 hB900 rfl rfl rfl trivial ?_
    refine R.len Try.underlying35 ho rfl ?_
    refine R.eql (b := false) rfl rfl (by simp; omega) ?_
    refine R.move ?_
    refine R.gT rfl rfl ?_
    refine R.move ?_
    refine R.gT rfl rfl ?_
    refine R.nilCheck rfl ?_
    refine R.gT rfl rfl ?_
    refine R.fld fa108_2 rfl ?_
    refine R.gT rfl rfl ?_
    refine R.loadB t35 hB900 rfl rfl rfl trivial ?_
    refine R.gT rfl rfl ?_
    refine R.move ?_
    refine R.gT rfl rfl ?_
    refine R.nilCheck rfl ?_
    refine R.gT rfl rfl ?_
    refine R.fld fa108_5 rfl ?_
    refine R.gT rfl rfl ?_
    refine R.loadB t3 hB900 rfl rfl rfl trivial ?_
    refine R.gT rfl rfl ?_
    refine R.ix (m := nx) Try.underlying35 t3 (by decide) hJ.ordI rfl rfl (by omega) ?_
    refine R.gT rfl rfl ?_
    refine R.ld (j := nx) t3 (hJ.ordI.ext (hJ.ext2 hE)) rfl (int_at (by omega)) rfl (fun _ _ => trivial) ?_
    refine R.gT rfl rfl ?_
    refine R.fld fa68_0 rfl ?_
    refine R.gT rfl rfl ?_
    refine R.loadB t3 hB3 rfl rfl rfl trivial ?_
    refine R.gT rfl rfl ?_
    refine R.neq (b := false) rfl rfl (by simp [hob]) ?_
    refine R.pickF rfl ?_
    refine R.nil ?_
    refine E.condF rfl ?_
    refine E.skip ?_
    refine E.regionP rfl ?_
    refine R.move ?_
    refine R.nilCheck rfl ?_
    refine R.fld fa108_5 rfl ?_
    refine R.loadB t3 hB900 rfl rfl rfl trivial ?_
    refine R.addN (m := nx) (n := 1) rfl rfl (by omega) ?_
    refine R.nilCheck rfl ?_
    refine R.fld fa108_5 rfl ?_
    refine R.store t3 hB900 rfl rfl rfl (by simp) nofun ?_
    intro w51 hU51 hs51 hN51
    replace hM := hM.upT hU51 hB900 (by decide)
    replace hst := hst.upT hU51 hB900 (by decide)
    replace hrk := hrk.upT hU51 hB900 rfl
    replace hB3 := hB3.upT hU51 hB900 (by decide)
    replace hE := hE.trans hU51 (fun x _ h => .inl h)
    replace hB900 : Blk _ b900 108 #[vs, .int .i64 H, vo, .map (some rm), vt, .int .i64 ((nx + 1 : Nat) : Int)] := hN51
    obtain ⟨ua, hua, _⟩ := hM.get a ha
    have hne3 : vblk vt ≠ some b3 := fun e => by have := hJ.steps.blk_lt e; omega
    refine R.nil ?_
    refine E.seq ?_
    refine E.regionW (fun c x => x < w51.heap.size ∧ (c = false → vblk vs ≠ some x)) [120, 128]  mixed rfl (by kernel_rfl) ?_
    intro w5 hx5 hh5
    replace hM := hM.ext hx5
    replace hst := hst.ext hx5
    replace hrk := hrk.ext hx5
    replace hB900 := hB900.ext hx5
    replace hB3 := hB3.ext hx5
    replace hE := hE.ext hx5
    have hEs : Ext w5 w5 := Upd.refl _
    have hS0 := hx5.size
    have hSB : ∀ b, b < w5.heap.size → b < w51.heap.size ∧ (true = false → (fun x => vblk vs ≠ some x) b) := fun b hb => ⟨by rw [hh5] at hb; exact hb, nofun⟩
    have hSA : ∀ b, b < w5.heap.size → (fun x => vblk vs ≠ some x) b → b < w51.heap.size ∧ (false = false → (fun x => vblk vs ≠ some x) b) := fun b hb h => ⟨by rw [hh5] at hb; exact hb, fun _ => h⟩
    have hMs := hM
    have hsts := hst
    have hrks := hrk
    have hB900s := hB900
    have hB3s := hB3
    refine R.move ?_
    refine R.nilCheck rfl ?_
    refine R.fld fa108_0 rfl ?_
    refine R.loadB t22 hB900 rfl rfl rfl (hSA b900 hB900s.lt (hB900.ne_vblk hM.outer (by decide))) ?_
    refine R.fld fa68_1 rfl ?_
    refine R.loadB t3 hB3 rfl rfl rfl (hSA b3 hB3s.lt (hB3.ne_vblk hM.outer (by decide))) ?_
    refine R.move ?_
    refine R.nilCheck rfl ?_
    refine R.fld fa108_0 rfl ?_
    refine R.loadB t22 hB900 rfl rfl rfl (hSA b900 hB900s.lt (hB900.ne_vblk hM.outer (by decide))) ?_
    refine R.fld fa68_1 rfl ?_
    refine R.loadB t3 hB3 rfl rfl rfl (hSA b3 hB3s.lt (hB3.ne_vblk hM.outer (by decide))) ?_
    refine R.ix (m := a) Try.underlying22 t35 (by decide) hMs.row rfl rfl ha ?_
    refine R.ldE (j := a) t35 hMs.row hEs rfl hua rfl hSB ?_
    refine R.move ?_
    refine R.nilCheck rfl ?_
    refine R.fld fa108_0 rfl ?_
    refine R.loadB t22 hB900 rfl rfl rfl (hSA b900 hB900s.lt (hB900.ne_vblk hM.outer (by decide))) ?_
    refine R.fld fa68_1 rfl ?_
    refine R.loadB t3 hB3 rfl rfl rfl (hSA b3 hB3s.lt (hB3.ne_vblk hM.outer (by decide))) ?_
    refine R.ix (m := a) Try.underlying22 t35 (by decide) hMs.row rfl rfl ha ?_
    refine R.ldE (j := a) t35 hMs.row hEs rfl hua rfl hSB ?_
    refine R.len Try.underlying35 (hM.rowOf ha hua).row rfl ?_
    refine R.subN (m := xss[a].length) (n := 1) rfl rfl (by omega) (by omega) ?_
    obtain ⟨a131, c131, hv131, hc131, _⟩ := id (hM.rowOf ha hua)
    refine R.slc (l := 0) (r := xss[a].length - 1) Try.underlying35 t3 rfl hv131 rfl ⟨_, rfl⟩ (Nat.zero_le _) (Nat.le_trans (show xss[a].length - 1 ≤ xss[a].length by omega) hc131) ?_
    refine R.ix (m := a) Try.underlying22 t35 (by decide) hM.row rfl rfl ha ?_
    have hru : SInts _ (cut 1 ua 0 (xss[a].length - 1)) (xss[a].take (xss[a].length - 1)) := SInts.take (hM.rowOf ha hua) (show xss[a].length - 1 ≤ xss[a].length by omega)
    refine R.stE (j := a) (u := cut 1 ua 0 (xss[a].length - 1)) t35 hM.outer rfl rfl hru.one ha (fun _ x hx h => h.2 rfl hx) ?_
    intro w85 hU85 hs85 hO85
    have hR85 := hru.upS hU85 hM.outer (by decide)
    replace hB900 := hB900.upS hU85 hM.outer (by decide)
    replace hB3 := hB3.upS hU85 hM.outer (by decide)
    replace hst := hst.upS hU85 hM.outer (by decide)
    replace hrk := hrk.upS hU85 hM.outer
    have hsM := Nat.le_trans hJ.ext.size hE.size
    replace hE := hE.trans hU85 (fun _ _ h => .inr (.inl h))
    replace hM := MS.set hM hua (hU85.mono (fun _ _ h => .inr h)) hO85 hR85 (fun b e => .inl (vblk_cut e)) hsM
    clear hru hO85 hR85
    rw [← List.dropLast_eq_take] at hM
    refine R.nil ?_
    refine E.seq ?_
    refine E.regionW (fun c x => x < w85.heap.size ∧ (c = false → x ≠ b900 ∧ vblk vt ≠ some x)) [137]  mixed rfl (by kernel_rfl) ?_
    intro w6 hx6 hh6
    replace hM := hM.ext hx6
    replace hst := hst.ext hx6
    replace hrk := hrk.ext hx6
    replace hB900 := hB900.ext hx6
    replace hB3 := hB3.ext hx6
    replace hE := hE.ext hx6
    have hEs : Ext w6 w6 := Upd.refl _
    have hS0 := hx6.size
    have hSB : ∀ b, b < w6.heap.size → b < w85.heap.size ∧ (true = false → (fun x => x ≠ b900 ∧ vblk vt ≠ some x) b) := fun b hb => ⟨by rw [hh6] at hb; exact hb, nofun⟩
    have hSA : ∀ b, b < w6.heap.size → (fun x => x ≠ b900 ∧ vblk vt ≠ some x) b → b < w85.heap.size ∧ (false = false → (fun x => x ≠ b900 ∧ vblk vt ≠ some x) b) := fun b hb h => ⟨by rw [hh6] at hb; exact hb, fun _ => h⟩
    have hMs := hM
    have hsts := hst
    have hrks := hrk
    have hB900s := hB900
    have hB3s := hB3
    refine R.move ?_
    refine R.move ?_
    refine R.nilCheck rfl ?_
    refine R.fld fa108_4 rfl ?_
    refine R.loadB t62 hB900 rfl rfl rfl (hSB b900 hB900s.lt) ?_
    refine R.loadA t68 hB3 rfl rfl rfl (hSA b3 hB3s.lt (⟨hB3.ne hB900 (by decide), fun e => hne3 e⟩)) ?_
    refine R.buildSlice [.agg #[.int .i64 b, .int .i64 (a : Nat), .int .i64 (-1)]] Try.underlying62 t68 rfl rfl (by simp [Value.cells]) (by simp) (fun _ _ _ hb => Nat.lt_of_lt_of_le hb.1 (Nat.le_trans hS0 hEs.size)) ?_
    intro b139 w7 hb139 hx7 hB139 hS139
    replace hb139 := Nat.le_trans hE.size hb139
    replace hM := hM.ext hx7
    replace hst := hst.ext hx7
    replace hrk := hrk.ext hx7
    replace hB900 := hB900.ext hx7
    replace hB3 := hB3.ext hx7
    replace hE := hE.ext hx7
    replace hEs := hEs.ext hx7
    refine R.append (m := 1) Try.underlying62 Try.underlying62 t68 (by decide) rfl hst hS139.row (by simp [cellsOf, Value.cells, Value.oneCell']) rfl rfl (by omega) (by omega) (fun _ b hb => ⟨Nat.lt_of_lt_of_le hb.1 (Nat.le_trans hS0 hEs.size), (hb.2 rfl).2⟩) ?_
    intro v140 w140 hU140 hS140 hd140
    have hsb140 : ∀ x, vblk v140 = some x → vblk vt = some x ∨ w.heap.size ≤ x := fun x e => by
      have hsz := hE.size
      rcases hd140 with ⟨h1, _⟩ | ⟨b', h1, h2, _⟩
      · exact .inl (h1 ▸ e)
      · rw [h1] at e; simp at e; subst e; exact .inr (Nat.le_trans hsz h2)
    have hft140 := Fresh.app' (Nat.le_trans hJ.ext.size hE.size) hJ.ft hd140
    replace hB900 := hB900.upS hU140 hst (by decide)
    replace hB3 := hB3.up hU140 (fun e => hne3 e)
    replace hM := hM.upS hU140 hst (by decide)
    replace hrk := hrk.upS hU140 hst
    replace hE := hE.trans hU140 (fun x _ h => .inr (.inr (.inr h)))
    have hT : Sl w140 68 3 v140 (ss ++ [(b, ((a : Nat) : Int), (-1))]).length (stepsC (ss ++ [(b, ((a : Nat) : Int), (-1))])) := by
      rw [stepsC_snoc, List.length_append]
      simpa [cellsOf, Value.cells] using hS140
    clear hS139 hS140 hst
    refine R.nilCheck rfl ?_
    refine R.fld fa108_4 rfl ?_
    refine R.store t62 hB900 rfl rfl hT.one (by simp) (fun _ h => (h.2 rfl).1 rfl) ?_
    intro w141 hU141 hs141 hN141
    replace hT := hT.upT hU141 hB900 (by decide)
    replace hM := hM.upT hU141 hB900 (by decide)
    replace hrk := hrk.upT hU141 hB900 rfl
    replace hE := hE.trans hU141 (fun x _ h => .inl h)
    replace hB900 : Blk _ b900 108 #[vs, .int .i64 H, vo, .map (some rm), v140, .int .i64 ((nx + 1 : Nat) : Int)] := hN141
    refine R.nil ?_
    refine E.seq ?_
    refine E.regionP rfl ?_
    refine R.assign ?_
    refine R.nil ?_
    refine E.ret ?_
    exact ret1 (.bool true) rfl rfl ⟨_, rfl, hE, DoRes2.yes hdo rfl ⟨hB900, hM, hJ.ordI, hrk, hT, hft140, hJ.fb, hJ.fm, hJ.ext2 hE⟩ ⟨sub_set sub_refl hua (fun x e => .inl (vblk_cut e)), hsb140⟩⟩
  · refine calls_E (args := [.pointer (some ⟨b900, 0, none⟩), .agg #[.int .i64 (b), .int .i64 ((a : Nat)), .int .i64 (t)]]) 143 Try.func76 rfl rfl (by simp) ?_
    have hE : Upd (JB b900 vs us vt) w w := Upd.refl w
    refine E.seq ?_
    refine E.regionP rfl ?_
    refine R.box rfl nofun ?_
    intro b3 w1 hb3 hx1 hB3
    replace hb3 := Nat.le_trans hE.size hb3
    replace hM := hM.ext hx1
    replace hst := hst.ext hx1
    replace hrk := hrk.ext hx1
    replace hB900 := hB900.ext hx1
    replace hE := hE.ext hx1
    replace hB3 : Blk _ b3 68 #[.int .i64 (b), .int .i64 ((a : Nat)), .int .i64 (t)] := hB3
    refine R.assign ?_
    refine R.nil ?_
    refine E.seq ?_
    refine E.seq ?_
    refine E.regionW (fun _ b => b < w1.heap.size) [] mixed rfl (by kernel_rfl) ?_
    intro w2 hx2 hh2
    replace hM := hM.ext hx2
    replace hst := hst.ext hx2
    replace hrk := hrk.ext hx2
    replace hB900 := hB900.ext hx2
    replace hB3 := hB3.ext hx2
    replace hE := hE.ext hx2
    have hEs : Ext w2 w2 := Upd.refl _
    have hS0 := hx2.size
    have hSs : ∀ b, b < w2.heap.size → b < w1.heap.size := fun b hb => by rw [hh2] at hb; exact hb
    have hSa : ∀ b, b < w.heap.size → b < w1.heap.size := fun b hb => by have := hE.size; rw [hh2] at this; omega
    have hMs := hM
    have hsts := hst
    have hrks := hrk
    have hB900s := hB900
    have hB3s := hB3
    refine R.fld fa68_0 rfl ?_
    refine R.loadBE t3 hB3s hEs rfl rfl rfl hSs ?_
    refine R.lss (b := false) rfl rfl (decide_eq_false (by omega)) ?_
    refine R.move ?_
    refine R.gT rfl rfl ?_
    refine R.move ?_
    refine R.gT rfl rfl ?_
    refine R.fld fa68_1 rfl ?_
    refine R.gT rfl rfl ?_
    refine R.loadBE t3 hB3s hEs rfl rfl rfl hSs ?_
    refine R.gT rfl rfl ?_
    refine R.callE2 ent79 (top_ _ hB900 hM.mat hx6) rfl rfl (fun _ _ hb => Nat.lt_of_lt_of_le hb (Nat.le_trans hS0 hEs.size)) ?_
    rintro v12 w3 hx3 rfl
    replace hM := hM.ext hx3
    replace hst := hst.ext hx3
    replace hrk := hrk.ext hx3
    replace hB900 := hB900.ext hx3
    replace hB3 := hB3.ext hx3
    replace hE := hE.ext hx3
    replace hEs := hEs.ext hx3
    refine R.gT rfl rfl ?_
    refine R.fld fa68_0 rfl ?_
    refine R.gT rfl rfl ?_
    refine R.loadBE t3 hB3s hEs rfl rfl rfl hSs ?_
    refine R.gT rfl rfl ?_
    refine R.neq (b := false) rfl rfl (by simp [htop]) ?_
    refine R.pickF rfl ?_
    refine R.nil ?_
    refine E.condF rfl ?_
    refine E.skip ?_
    refine E.seq ?_
    refine E.seq ?_
    refine E.regionP rfl ?_
    refine R.fld fa68_2 rfl ?_
    refine R.loadB t3 hB3 rfl rfl rfl trivial ?_
    refine R.eql (b := false) rfl rfl (by simp; omega) ?_
    refine R.nil ?_
    refine E.condF rfl ?_
    refine E.seq ?_
    refine E.seq ?_
    refine E.regionW allS [] mixed rfl (by kernel_rfl) ?_
    intro w4 hx4 hh4
    replace hM := hM.ext hx4
    replace hst := hst.ext hx4
    replace hrk := hrk.ext hx4
    replace hB900 := hB900.ext hx4
    replace hB3 := hB3.ext hx4
    replace hE := hE.ext hx4
    refine R.fld fa68_2 rfl ?_
    refine R.loadB t3 hB3 rfl rfl rfl trivial ?_
    refine R.lss (b := true) rfl rfl (decide_eq_true (ht)) ?_
    refine R.move ?_
    refine R.gF rfl rfl rfl ?_
    refine R.gF rfl rfl rfl ?_
    refine R.gF rfl rfl rfl ?_
    refine R.gF rfl rfl rfl ?_
    refine R.gF rfl rfl rfl ?_
    refine R.gF rfl rfl rfl ?_
    refine R.gF rfl rfl rfl ?_
    refine R.gF rfl rfl rfl ?_
    refine R.pickT rfl ?_
    refine R.move ?_
    refine R.gF rfl rfl rfl ?_
    refine R.gF rfl rfl rfl ?_
    refine R.gF rfl rfl rfl ?_
    refine R.gF rfl rfl rfl ?_
    refine R.gF rfl rfl rfl ?_
    refine R.pickT rfl ?_
    refine R.move ?_
    refine R.gF rfl rfl rfl ?_
    refine R.gF rfl rfl rfl ?_
    refine R.gF rfl rfl rfl ?_
    refine R.gF rfl rfl rfl ?_
    refine R.gF rfl rfl rfl ?_
    refine R.gF rfl rfl rfl ?_
    refine R.gF rfl rfl rfl ?_
    refine R.gF rfl rfl rfl ?_
    refine R.gF rfl rfl rfl ?_
    refine R.gF rfl rfl rfl ?_
    refine R.gF rfl rfl rfl ?_
    refine R.gF rfl rfl rfl ?_
    refine R.gF rfl rfl rfl ?_
    refine R.gF rfl rfl rfl ?_
    refine R.pickT rfl ?_
    refine R.nil ?_
    refine E.condT rfl ?_
    refine E.seq ?_
    refine E.regionP rfl ?_
    refine R.assign ?_
    refine R.nil ?_
    refine E.ret ?_
    exact ret1 (.bool false) rfl rfl ⟨_, rfl, hE, DoRes2.no (by simp only [doL]; rw [if_neg (by omega), if_neg ht1, if_pos (.inl ht)]) rfl ⟨hB900, hM, hJ.ordI, hrk, hst, hJ.ft, hJ.fb, hJ.fm, hJ.ext2 hE⟩⟩
  · refine calls_E (args := [.pointer (some ⟨b900, 0, none⟩), .agg #[.int .i64 (b), .int .i64 ((a : Nat)), .int .i64 (t)]]) 143 Try.func76 rfl rfl (by simp) ?_
    have hE : Upd (JB b900 vs us vt) w w := Upd.refl w
    refine E.seq ?_
    refine E.regionP rfl ?_
    refine R.box rfl nofun ?_
    intro b3 w1 hb3 hx1 hB3
    replace hb3 := Nat.le_trans hE.size hb3
    replace hM := hM.ext hx1
    replace hst := hst.ext hx1
    replace hrk := hrk.ext hx1
    replace hB900 := hB900.ext hx1
    replace hE := hE.ext hx1
    replace hB3 : Blk _ b3 68 #[.int .i64 (b), .int .i64 ((a : Nat)), .int .i64 (t)] := hB3
    refine R.assign ?_
    refine R.nil ?_
    refine E.seq ?_
    refine E.seq ?_
    refine E.regionW (fun _ b => b < w1.heap.size) [] mixed rfl (by kernel_rfl) ?_
    intro w2 hx2 hh2
    replace hM := hM.ext hx2
    replace hst := hst.ext hx2
    replace hrk := hrk.ext hx2
    replace hB900 := hB900.ext hx2
    replace hB3 := hB3.ext hx2
    replace hE := hE.ext hx2
    have hEs : Ext w2 w2 := Upd.refl _
    have hS0 := hx2.size
    have hSs : ∀ b, b < w2.heap.size → b < w1.heap.size := fun b hb => by rw [hh2] at hb; exact hb
    have hSa : ∀ b, b < w.heap.size → b < w1.heap.size := fun b hb => by have := hE.size; rw [hh2] at this; omega
    have hMs := hM
    have hsts := hst
    have hrks := hrk
    have hB900s := hB900
    have hB3s := hB3
    refine R.fld fa68_0 rfl ?_
    refine R.loadBE t3 hB3s hEs rfl rfl rfl hSs ?_
    refine R.lss (b := false) rfl rfl (decide_eq_false (by omega)) ?_
    refine R.move ?_
    refine R.gT rfl rfl ?_
    refine R.move ?_
    refine R.gT rfl rfl ?_
    refine R.fld fa68_1 rfl ?_
    refine R.gT rfl rfl ?_
    refine R.loadBE t3 hB3s hEs rfl rfl rfl hSs ?_
    refine R.gT rfl rfl ?_
    refine R.callE2 ent79 (top_ _ hB900 hM.mat hx6) rfl rfl (fun _ _ hb => Nat.lt_of_lt_of_le hb (Nat.le_trans hS0 hEs.size)) ?_
    rintro v12 w3 hx3 rfl
    replace hM := hM.ext hx3
    replace hst := hst.ext hx3
    replace hrk := hrk.ext hx3
    replace hB900 := hB900.ext hx3
    replace hB3 := hB3.ext hx3
    replace hE := hE.ext hx3
    replace hEs := hEs.ext hx3
    refine R.gT rfl rfl ?_
    refine R.fld fa68_0 rfl ?_
    refine R.gT rfl rfl ?_
    refine R.loadBE t3 hB3s hEs rfl rfl rfl hSs ?_
    refine R.gT rfl rfl ?_
    refine R.neq (b := false) rfl rfl (by simp [htop]) ?_
    refine R.pickF rfl ?_
    refine R.nil ?_
    refine E.condF rfl ?_
    refine E.skip ?_
    refine E.seq ?_
    refine E.seq ?_
    refine E.regionP rfl ?_
    refine R.fld fa68_2 rfl ?_
    refine R.loadB t3 hB3 rfl rfl rfl trivial ?_
    refine R.eql (b := false) rfl rfl (by simp; omega) ?_
    refine R.nil ?_
    refine E.condF rfl ?_
    refine E.seq ?_
    refine E.seq ?_
    refine E.regionW allS [] mixed rfl (by kernel_rfl) ?_
    intro w4 hx4 hh4
    replace hM := hM.ext hx4
    replace hst := hst.ext hx4
    replace hrk := hrk.ext hx4
    replace hB900 := hB900.ext hx4
    replace hB3 := hB3.ext hx4
    replace hE := hE.ext hx4
    refine R.fld fa68_2 rfl ?_
    refine R.loadB t3 hB3 rfl rfl rfl trivial ?_
    refine R.lss (b := false) rfl rfl (decide_eq_false (by omega)) ?_
    refine R.move ?_
    refine R.gT rfl rfl ?_
    refine R.fld fa68_2 rfl ?_
    refine R.gT rfl rfl ?_
    refine R.loadB t3 hB3 rfl rfl rfl trivial ?_
    refine R.gT rfl rfl ?_
    refine R.move ?_
    refine R.gT rfl rfl ?_
    refine R.nilCheck rfl ?_
    refine R.gT rfl rfl ?_
    refine R.fld fa108_0 rfl ?_
    refine R.gT rfl rfl ?_
    refine R.loadB t22 hB900 rfl rfl rfl trivial ?_
    refine R.gT rfl rfl ?_
    refine R.len Try.underlying22 hM.outer.row rfl ?_
    refine R.gT rfl rfl ?_
    refine R.geq (b := true) rfl rfl (decide_eq_true (by omega)) ?_
    refine R.pickF rfl ?_
    refine R.move ?_
    refine R.gF rfl rfl rfl ?_
    refine R.gF rfl rfl rfl ?_
    refine R.gF rfl rfl rfl ?_
    refine R.gF rfl rfl rfl ?_
    refine R.gF rfl rfl rfl ?_
    refine R.pickT rfl ?_
    refine R.move ?_
    refine R.gF rfl rfl rfl ?_
    refine R.gF rfl rfl rfl ?_
    refine R.gF rfl rfl rfl ?_
    refine R.gF rfl rfl rfl ?_
    refine R.gF rfl rfl rfl ?_
    refine R.gF rfl rfl rfl ?_
    refine R.gF rfl rfl rfl ?_
    refine R.gF rfl rfl rfl ?_
    refine R.gF rfl rfl rfl ?_
    refine R.gF rfl rfl rfl ?_
    refine R.gF rfl rfl rfl ?_
    refine R.gF rfl rfl rfl ?_
    refine R.gF rfl rfl rfl ?_
    refine R.gF rfl rfl rfl ?_
    refine R.pickT rfl ?_
    refine R.nil ?_
    refine E.condT rfl ?_
    refine E.seq ?_
    refine E.regionP rfl ?_
    refine R.assign ?_
    refine R.nil ?_
    refine E.ret ?_
    exact ret1 (.bool false) rfl rfl ⟨_, rfl, hE, DoRes2.no (by simp only [doL]; rw [if_neg (by omega), if_neg (by omega), if_pos (.inr (.inl ht1))]) rfl ⟨hB900, hM, hJ.ordI, hrk, hst, hJ.ft, hJ.fb, hJ.fm, hJ.ext2 hE⟩⟩
  · refine calls_E (args := [.pointer (some ⟨b900, 0, none⟩), .agg #[.int .i64 (b), .int .i64 ((a : Nat)), .int .i64 (t)]]) 143 Try.func76 rfl rfl (by simp) ?_
    have hE : Upd (JB b900 vs us vt) w w := Upd.refl w
    refine E.seq ?_
    refine E.regionP rfl ?_
    refine R.box rfl nofun ?_
    intro b3 w1 hb3 hx1 hB3
    replace hb3 := Nat.le_trans hE.size hb3
    replace hM := hM.ext hx1
    replace hst := hst.ext hx1
    replace hrk := hrk.ext hx1
    replace hB900 := hB900.ext hx1
    replace hE := hE.ext hx1
    replace hB3 : Blk _ b3 68 #[.int .i64 (b), .int .i64 ((a : Nat)), .int .i64 (t)] := hB3
    refine R.assign ?_
    refine R.nil ?_
    refine E.seq ?_
    refine E.seq ?_
    refine E.regionW (fun _ b => b < w1.heap.size) [] mixed rfl (by kernel_rfl) ?_
    intro w2 hx2 hh2
    replace hM := hM.ext hx2
    replace hst := hst.ext hx2
    replace hrk := hrk.ext hx2
    replace hB900 := hB900.ext hx2
    replace hB3 := hB3.ext hx2
    replace hE := hE.ext hx2
    have hEs : Ext w2 w2 := Upd.refl _
    have hS0 := hx2.size
    have hSs : ∀ b, b < w2.heap.size → b < w1.heap.size := fun b hb => by rw [hh2] at hb; exact hb
    have hSa : ∀ b, b < w.heap.size → b < w1.heap.size := fun b hb => by have := hE.size; rw [hh2] at this; omega
    have hMs := hM
    have hsts := hst
    have hrks := hrk
    have hB900s := hB900
    have hB3s := hB3
    refine R.fld fa68_0 rfl ?_
    refine R.loadBE t3 hB3s hEs rfl rfl rfl hSs ?_
    refine R.lss (b := false) rfl rfl (decide_eq_false (by omega)) ?_
    refine R.move ?_
    refine R.gT rfl rfl ?_
    refine R.move ?_
    refine R.gT rfl rfl ?_
    refine R.fld fa68_1 rfl ?_
    refine R.gT rfl rfl ?_
    refine R.loadBE t3 hB3s hEs rfl rfl rfl hSs ?_
    refine R.gT rfl rfl ?_
    refine R.callE2 ent79 (top_ _ hB900 hM.mat hx6) rfl rfl (fun _ _ hb => Nat.lt_of_lt_of_le hb (Nat.le_trans hS0 hEs.size)) ?_
    rintro v12 w3 hx3 rfl
    replace hM := hM.ext hx3
    replace hst := hst.ext hx3
    replace hrk := hrk.ext hx3
    replace hB900 := hB900.ext hx3
    replace hB3 := hB3.ext hx3
    replace hE := hE.ext hx3
    replace hEs := hEs.ext hx3
    refine R.gT rfl rfl ?_
    refine R.fld fa68_0 rfl ?_
    refine R.gT rfl rfl ?_
    refine R.loadBE t3 hB3s hEs rfl rfl rfl hSs ?_
    refine R.gT rfl rfl ?_
    refine R.neq (b := false) rfl rfl (by simp [htop]) ?_
    refine R.pickF rfl ?_
    refine R.nil ?_
    refine E.condF rfl ?_
    refine E.skip ?_
    refine E.seq ?_
    refine E.seq ?_
    refine E.regionP rfl ?_
    refine R.fld fa68_2 rfl ?_
    refine R.loadB t3 hB3 rfl rfl rfl trivial ?_
    refine R.eql (b := false) rfl rfl (by simp; omega) ?_
    refine R.nil ?_
    refine E.condF rfl ?_
    refine E.seq ?_
    refine E.seq ?_
    refine E.regionW allS [] mixed rfl (by kernel_rfl) ?_
    intro w4 hx4 hh4
    replace hM := hM.ext hx4
    replace hst := hst.ext hx4
    replace hrk := hrk.ext hx4
    replace hB900 := hB900.ext hx4
    replace hB3 := hB3.ext hx4
    replace hE := hE.ext hx4
    refine R.fld fa68_2 rfl ?_
    refine R.loadB t3 hB3 rfl rfl rfl trivial ?_
    refine R.lss (b := false) rfl rfl (decide_eq_false (by omega)) ?_
    refine R.move ?_
    refine R.gT rfl rfl ?_
    refine R.fld fa68_2 rfl ?_
    refine R.gT rfl rfl ?_
    refine R.loadB t3 hB3 rfl rfl rfl trivial ?_
    refine R.gT rfl rfl ?_
    refine R.move ?_
    refine R.gT rfl rfl ?_
    refine R.nilCheck rfl ?_
    refine R.gT rfl rfl ?_
    refine R.fld fa108_0 rfl ?_
    refine R.gT rfl rfl ?_
    refine R.loadB t22 hB900 rfl rfl rfl trivial ?_
    refine R.gT rfl rfl ?_
    refine R.len Try.underlying22 hM.outer.row rfl ?_
    refine R.gT rfl rfl ?_
    refine R.geq (b := false) rfl rfl (decide_eq_false (by omega)) ?_
    refine R.pickF rfl ?_
    refine R.move ?_
    refine R.gT rfl rfl ?_
    refine R.fld fa68_2 rfl ?_
    refine R.gT rfl rfl ?_
    refine R.loadB t3 hB3 rfl rfl rfl trivial ?_
    refine R.gT rfl rfl ?_
    refine R.fld fa68_1 rfl ?_
    refine R.gT rfl rfl ?_
    refine R.loadB t3 hB3 rfl rfl rfl trivial ?_
    refine R.gT rfl rfl ?_
    refine R.eql (b := true) rfl rfl (by simp [hta]) ?_
    refine R.pickF rfl ?_
    refine R.move ?_
    refine R.gF rfl rfl rfl ?_
    refine R.gF rfl rfl rfl ?_
    refine R.gF rfl rfl rfl ?_
    refine R.gF rfl rfl rfl ?_
    refine R.gF rfl rfl rfl ?_
    refine R.gF rfl rfl rfl ?_
    refine R.gF rfl rfl rfl ?_
    refine R.gF rfl rfl rfl ?_
    refine R.gF rfl rfl rfl ?_
    refine R.gF rfl rfl rfl ?_
    refine R.gF rfl rfl rfl ?_
    refine R.gF rfl rfl rfl ?_
    refine R.gF rfl rfl rfl ?_
    refine R.gF rfl rfl rfl ?_
    refine R.pickT rfl ?_
    refine R.nil ?_
    refine E.condT rfl ?_
    refine E.seq ?_
    refine E.regionP rfl ?_
    refine R.assign ?_
    refine R.nil ?_
    refine E.ret ?_
    exact ret1 (.bool false) rfl rfl ⟨_, rfl, hE, DoRes2.no (by simp only [doL]; rw [if_neg (by omega), if_neg (by omega), if_pos (.inr (.inr (.inl hta)))]) rfl ⟨hB900, hM, hJ.ordI, hrk, hst, hJ.ft, hJ.fb, hJ.fm, hJ.ext2 hE⟩⟩
  · obtain ⟨c, rfl⟩ : ∃ c : Nat, t = c := ⟨t.toNat, by omega⟩
    have hc : c < xss.length := by omega
    have hxc := hx _ (List.getElem_mem hc)
    have hgc : xss.getD c [] = xss[c] := by simp [hc]
    rcases Decidable.em (xss[c].length = H) with hfu | hfu
    · refine calls_E (args := [.pointer (some ⟨b900, 0, none⟩), .agg #[.int .i64 (b), .int .i64 ((a : Nat)), .int .i64 ((c : Nat))]]) 143 Try.func76 rfl rfl (by simp) ?_
      have hE : Upd (JB b900 vs us vt) w w := Upd.refl w
      refine E.seq ?_
      refine E.regionP rfl ?_
      refine R.box rfl nofun ?_
      intro b3 w1 hb3 hx1 hB3
      replace hb3 := Nat.le_trans hE.size hb3
      replace hM := hM.ext hx1
      replace hst := hst.ext hx1
      replace hrk := hrk.ext hx1
      replace hB900 := hB900.ext hx1
      replace hE := hE.ext hx1
      replace hB3 : Blk _ b3 68 #[.int .i64 (b), .int .i64 ((a : Nat)), .int .i64 ((c : Nat))] := hB3
      refine R.assign ?_
      refine R.nil ?_
      refine E.seq ?_
      refine E.seq ?_
      refine E.regionW (fun _ b => b < w1.heap.size) [] mixed rfl (by kernel_rfl) ?_
      intro w2 hx2 hh2
      replace hM := hM.ext hx2
      replace hst := hst.ext hx2
      replace hrk := hrk.ext hx2
      replace hB900 := hB900.ext hx2
      replace hB3 := hB3.ext hx2
      replace hE := hE.ext hx2
      have hEs : Ext w2 w2 := Upd.refl _
      have hS0 := hx2.size
      have hSs : ∀ b, b < w2.heap.size → b < w1.heap.size := fun b hb => by rw [hh2] at hb; exact hb
      have hSa : ∀ b, b < w.heap.size → b < w1.heap.size := fun b hb => by have := hE.size; rw [hh2] at this; omega
      have hMs := hM
      have hsts := hst
      have hrks := hrk
      have hB900s := hB900
      have hB3s := hB3
      refine R.fld fa68_0 rfl ?_
      refine R.loadBE t3 hB3s hEs rfl rfl rfl hSs ?_
      refine R.lss (b := false) rfl rfl (decide_eq_false (by omega)) ?_
      refine R.move ?_
      refine R.gT rfl rfl ?_
      refine R.move ?_
      refine R.gT rfl rfl ?_
      refine R.fld fa68_1 rfl ?_
      refine R.gT rfl rfl ?_
      refine R.loadBE t3 hB3s hEs rfl rfl rfl hSs ?_
      refine R.gT rfl rfl ?_
      refine R.callE2 ent79 (top_ _ hB900 hM.mat hx6) rfl rfl (fun _ _ hb => Nat.lt_of_lt_of_le hb (Nat.le_trans hS0 hEs.size)) ?_
      rintro v12 w3 hx3 rfl
      replace hM := hM.ext hx3
      replace hst := hst.ext hx3
      replace hrk := hrk.ext hx3
      replace hB900 := hB900.ext hx3
      replace hB3 := hB3.ext hx3
      replace hE := hE.ext hx3
      replace hEs := hEs.ext hx3
      refine R.gT rfl rfl ?_
      refine R.fld fa68_0 rfl ?_
      refine R.gT rfl rfl ?_
      refine R.loadBE t3 hB3s hEs rfl rfl rfl hSs ?_
      refine R.gT rfl rfl ?_
      refine R.neq (b := false) rfl rfl (by simp [htop]) ?_
      refine R.pickF rfl ?_
      refine R.nil ?_
      refine E.condF rfl ?_
      refine E.skip ?_
      refine E.seq ?_
      refine E.seq ?_
      refine E.regionP rfl ?_
      refine R.fld fa68_2 rfl ?_
      refine R.loadB t3 hB3 rfl rfl rfl trivial ?_
      refine R.eql (b := false) rfl rfl (by simp <;> omega) ?_
      refine R.nil ?_
      refine E.condF rfl ?_
      refine E.seq ?_
      refine E.seq ?_
      refine E.regionW allS [] mixed rfl (by kernel_rfl) ?_
      intro w4 hx4 hh4
      replace hM := hM.ext hx4
      replace hst := hst.ext hx4
      replace hrk := hrk.ext hx4
      replace hB900 := hB900.ext hx4
      replace hB3 := hB3.ext hx4
      replace hE := hE.ext hx4
      refine R.fld fa68_2 rfl ?_
      refine R.loadB t3 hB3 rfl rfl rfl trivial ?_
      refine R.lss (b := false) rfl rfl (decide_eq_false (by omega)) ?_
      refine R.move ?_
      refine R.gT rfl rfl ?_
      refine R.fld fa68_2 rfl ?_
      refine R.gT rfl rfl ?_
      refine R.loadB t3 hB3 rfl rfl rfl trivial ?_
      refine R.gT rfl rfl ?_
      refine R.move ?_
      refine R.gT rfl rfl ?_
      refine R.nilCheck rfl ?_
      refine R.gT rfl rfl ?_
      refine R.fld fa108_0 rfl ?_
      refine R.gT rfl rfl ?_
      refine R.loadB t22 hB900 rfl rfl rfl trivial ?_
      refine R.gT rfl rfl ?_
      refine R.len Try.underlying22 hM.outer.row rfl ?_
      refine R.gT rfl rfl ?_
      refine R.geq (b := false) rfl rfl (decide_eq_false (by omega)) ?_
      refine R.pickF rfl ?_
      refine R.move ?_
      refine R.gT rfl rfl ?_
      refine R.fld fa68_2 rfl ?_
      refine R.gT rfl rfl ?_
      refine R.loadB t3 hB3 rfl rfl rfl trivial ?_
      refine R.gT rfl rfl ?_
      refine R.fld fa68_1 rfl ?_
      refine R.gT rfl rfl ?_
      refine R.loadB t3 hB3 rfl rfl rfl trivial ?_
      refine R.gT rfl rfl ?_
      refine R.eql (b := false) rfl rfl (by simp; omega) ?_
      refine R.pickF rfl ?_
      refine R.move ?_
      refine R.gT rfl rfl ?_
      refine R.move ?_
      refine R.gT rfl rfl ?_
      refine R.nilCheck rfl ?_
      refine R.gT rfl rfl ?_
      refine R.fld fa108_0 rfl ?_
      refine R.gT rfl rfl ?_
      refine R.loadB t22 hB900 rfl rfl rfl trivial ?_
      refine R.gT rfl rfl ?_
      refine R.fld fa68_2 rfl ?_
      refine R.gT rfl rfl ?_
      refine R.loadB t3 hB3 rfl rfl rfl trivial ?_
      refine R.gT rfl rfl ?_
      refine R.ix (m := c) Try.underlying22 t35 (by decide) hM.row rfl rfl hc ?_
      refine R.gT rfl rfl ?_
      obtain ⟨uc, huc, _⟩ := hM.get c hc
      refine R.ld (j := c) t35 hM.row rfl huc rfl (fun _ _ => trivial) ?_
      refine R.gT rfl rfl ?_
      refine R.len Try.underlying35 (hM.rowOf hc huc).row rfl ?_
      refine R.gT rfl rfl ?_
      refine R.move ?_
      refine R.gT rfl rfl ?_
      refine R.nilCheck rfl ?_
      refine R.gT rfl rfl ?_
      refine R.fld fa108_1 rfl ?_
      refine R.gT rfl rfl ?_
      refine R.loadB t3 hB900 rfl rfl rfl trivial ?_
      refine R.gT rfl rfl ?_
      refine R.eql (b := true) rfl rfl (by simp; omega) ?_
      refine R.pickF rfl ?_
      have hne3 : vblk vt ≠ some b3 := fun e => by have := hJ.steps.blk_lt e; omega
      refine R.nil ?_
      refine E.condT rfl ?_
      refine E.seq ?_
      refine E.regionP rfl ?_
      refine R.assign ?_
      refine R.nil ?_
      refine E.ret ?_
      exact ret1 (.bool false) rfl rfl ⟨_, rfl, hE, DoRes2.no (by simp only [doL]; rw [if_neg (by omega), if_neg (by omega), if_pos (.inr (.inr (.inr (by rw [Int.toNat_natCast, hgc]; exact hfu))))]) rfl ⟨hB900, hM, hJ.ordI, hrk, hst, hJ.ft, hJ.fb, hJ.fm, hJ.ext2 hE⟩⟩
    · have hdo : doL xss H ord nx (b, ((a : Nat) : Int), ((c : Nat) : Int)) = some ((xss.set c (xss[c] ++ [b])).set a xss[a].dropLast, nx) := by
        simp only [doL]
        rw [if_neg (by omega), if_neg (by omega), if_neg (by rw [Int.toNat_natCast, hgc]; omega), Int.toNat_natCast, Int.toNat_natCast, hga, hgc]
      refine calls_E (args := [.pointer (some ⟨b900, 0, none⟩), .agg #[.int .i64 (b), .int .i64 ((a : Nat)), .int .i64 ((c : Nat))]]) 143 Try.func76 rfl rfl (by simp) ?_
      have hE : Upd (JB b900 vs us vt) w w := Upd.refl w
      refine E.seq ?_
      refine E.regionP rfl ?_
      refine R.box rfl nofun ?_
      intro b3 w1 hb3 hx1 hB3
      replace hb3 := Nat.le_trans hE.size hb3
      replace hM := hM.ext hx1
      replace hst := hst.ext hx1
      replace hrk := hrk.ext hx1
      replace hB900 := hB900.ext hx1
      replace hE := hE.ext hx1
      replace hB3 : Blk _ b3 68 #[.int .i64 (b), .int .i64 ((a : Nat)), .int .i64 ((c : Nat))] := hB3
      refine R.assign ?_
      refine R.nil ?_
      refine E.seq ?_
      refine E.seq ?_
      refine E.regionW (fun _ b => b < w1.heap.size) [] mixed rfl (by kernel_rfl) ?_
      intro w2 hx2 hh2
      replace hM := hM.ext hx2
      replace hst := hst.ext hx2
      replace hrk := hrk.ext hx2
      replace hB900 := hB900.ext hx2
      replace hB3 := hB3.ext hx2
      replace hE := hE.ext hx2
      have hEs : Ext w2 w2 := Upd.refl _
      have hS0 := hx2.size
      have hSs : ∀ b, b < w2.heap.size → b < w1.heap.size := fun b hb => by rw [hh2] at hb; exact hb
      have hSa : ∀ b, b < w.heap.size → b < w1.heap.size := fun b hb => by have := hE.size; rw [hh2] at this; omega
      have hMs := hM
      have hsts := hst
      have hrks := hrk
      have hB900s := hB900
      have hB3s := hB3
      refine R.fld fa68_0 rfl ?_
      refine R.loadBE t3 hB3s hEs rfl rfl rfl hSs ?_
      refine R.lss (b := false) rfl rfl (decide_eq_false (by omega)) ?_
      refine R.move ?_
      refine R.gT rfl rfl ?_
      refine R.move ?_
      refine R.gT rfl rfl ?_
      refine R.fld fa68_1 rfl ?_
      refine R.gT rfl rfl ?_
      refine R.loadBE t3 hB3s hEs rfl rfl rfl hSs ?_
      refine R.gT rfl rfl ?_
      refine R.callE2 ent79 (top_ _ hB900 hM.mat hx6) rfl rfl (fun _ _ hb => Nat.lt_of_lt_of_le hb (Nat.le_trans hS0 hEs.size)) ?_
      rintro v12 w3 hx3 rfl
      replace hM := hM.ext hx3
      replace hst := hst.ext hx3
      replace hrk := hrk.ext hx3
      replace hB900 := hB900.ext hx3
      replace hB3 := hB3.ext hx3
      replace hE := hE.ext hx3
      replace hEs := hEs.ext hx3
      refine R.gT rfl rfl ?_
      refine R.fld fa68_0 rfl ?_
      refine R.gT rfl rfl ?_
      refine R.loadBE t3 hB3s hEs rfl rfl rfl hSs ?_
      refine R.gT rfl rfl ?_
      refine R.neq (b := false) rfl rfl (by simp [htop]) ?_
      refine R.pickF rfl ?_
      refine R.nil ?_
      refine E.condF rfl ?_
      refine E.skip ?_
      refine E.seq ?_
      refine E.seq ?_
      refine E.regionP rfl ?_
      refine R.fld fa68_2 rfl ?_
      refine R.loadB t3 hB3 rfl rfl rfl trivial ?_
      refine R.eql (b := false) rfl rfl (by simp <;> omega) ?_
      refine R.nil ?_
      refine E.condF rfl ?_
      refine E.seq ?_
      refine E.seq ?_
      refine E.regionW allS [] mixed rfl (by kernel_rfl) ?_
      intro w4 hx4 hh4
      replace hM := hM.ext hx4
      replace hst := hst.ext hx4
      replace hrk := hrk.ext hx4
      replace hB900 := hB900.ext hx4
      replace hB3 := hB3.ext hx4
      replace hE := hE.ext hx4
      refine R.fld fa68_2 rfl ?_
      refine R.loadB t3 hB3 rfl rfl rfl trivial ?_
      refine R.lss (b := false) rfl rfl (decide_eq_false (by omega)) ?_
      refine R.move ?_
      refine R.gT rfl rfl ?_
      refine R.fld fa68_2 rfl ?_
      refine R.gT rfl rfl ?_
      refine R.loadB t3 hB3 rfl rfl rfl trivial ?_
      refine R.gT rfl rfl ?_
      refine R.move ?_
      refine R.gT rfl rfl ?_
      refine R.nilCheck rfl ?_
      refine R.gT rfl rfl ?_
      refine R.fld fa108_0 rfl ?_
      refine R.gT rfl rfl ?_
      refine R.loadB t22 hB900 rfl rfl rfl trivial ?_
      refine R.gT rfl rfl ?_
      refine R.len Try.underlying22 hM.outer.row rfl ?_
      refine R.gT rfl rfl ?_
      refine R.geq (b := false) rfl rfl (decide_eq_false (by omega)) ?_
      refine R.pickF rfl ?_
      refine R.move ?_
      refine R.gT rfl rfl ?_
      refine R.fld fa68_2 rfl ?_
      refine R.gT rfl rfl ?_
      refine R.loadB t3 hB3 rfl rfl rfl trivial ?_
      refine R.gT rfl rfl ?_
      refine R.fld fa68_1 rfl ?_
      refine R.gT rfl rfl ?_
      refine R.loadB t3 hB3 rfl rfl rfl trivial ?_
      refine R.gT rfl rfl ?_
      refine R.eql (b := false) rfl rfl (by simp; omega) ?_
      refine R.pickF rfl ?_
      refine R.move ?_
      refine R.gT rfl rfl ?_
      refine R.move ?_
      refine R.gT rfl rfl ?_
      refine R.nilCheck rfl ?_
      refine R.gT rfl rfl ?_
      refine R.fld fa108_0 rfl ?_
      refine R.gT rfl rfl ?_
      refine R.loadB t22 hB900 rfl rfl rfl trivial ?_
      refine R.gT rfl rfl ?_
      refine R.fld fa68_2 rfl ?_
      refine R.gT rfl rfl ?_
      refine R.loadB t3 hB3 rfl rfl rfl trivial ?_
      refine R.gT rfl rfl ?_
      refine R.ix (m := c) Try.underlying22 t35 (by decide) hM.row rfl rfl hc ?_
      refine R.gT rfl rfl ?_
      obtain ⟨uc, huc, _⟩ := hM.get c hc
      refine R.ld (j := c) t35 hM.row rfl huc rfl (fun _ _ => trivial) ?_
      refine R.gT rfl rfl ?_
      refine R.len Try.underlying35 (hM.rowOf hc huc).row rfl ?_
      refine R.gT rfl rfl ?_
      refine R.move ?_
      refine R.gT rfl rfl ?_
      refine R.nilCheck rfl ?_
      refine R.gT rfl rfl ?_
      refine R.fld fa108_1 rfl ?_
      refine R.gT rfl rfl ?_
      refine R.loadB t3 hB900 rfl rfl rfl trivial ?_
      refine R.gT rfl rfl ?_
      refine R.eql (b := false) rfl rfl (by simp; omega) ?_
      refine R.pickF rfl ?_
      have hne3 : vblk vt ≠ some b3 := fun e => by have := hJ.steps.blk_lt e; omega
      refine R.nil ?_
      refine E.condF rfl ?_
      refine E.skip ?_
      refine E.regionW (fun c x => x < w4.heap.size ∧ (c = false → vblk uc ≠ some x ∧ vblk vs ≠ some x)) [101]  mixed rfl (by kernel_rfl) ?_
      intro w5 hx5 hh5
      replace hM := hM.ext hx5
      replace hst := hst.ext hx5
      replace hrk := hrk.ext hx5
      replace hB900 := hB900.ext hx5
      replace hB3 := hB3.ext hx5
      replace hE := hE.ext hx5
      have hEs : Ext w5 w5 := Upd.refl _
      have hS0 := hx5.size
      have hSB : ∀ b, b < w5.heap.size → b < w4.heap.size ∧ (true = false → (fun x => vblk uc ≠ some x ∧ vblk vs ≠ some x) b) := fun b hb => ⟨by rw [hh5] at hb; exact hb, nofun⟩
      have hSA : ∀ b, b < w5.heap.size → (fun x => vblk uc ≠ some x ∧ vblk vs ≠ some x) b → b < w4.heap.size ∧ (false = false → (fun x => vblk uc ≠ some x ∧ vblk vs ≠ some x) b) := fun b hb h => ⟨by rw [hh5] at hb; exact hb, fun _ => h⟩
      have hMs := hM
      have hsts := hst
      have hrks := hrk
      have hB900s := hB900
      have hB3s := hB3
      refine R.move ?_
      refine R.nilCheck rfl ?_
      refine R.fld fa108_0 rfl ?_
      refine R.loadB t22 hB900 rfl rfl rfl (hSA b900 hB900s.lt (⟨hB900.ne_vblk (hM.rowOf hc huc) (by decide), hB900.ne_vblk hM.outer (by decide)⟩)) ?_
      refine R.fld fa68_2 rfl ?_
      refine R.loadB t3 hB3 rfl rfl rfl (hSA b3 hB3s.lt (⟨hB3.ne_vblk (hM.rowOf hc huc) (by decide), hB3.ne_vblk hM.outer (by decide)⟩)) ?_
      refine R.move ?_
      refine R.nilCheck rfl ?_
      refine R.fld fa108_0 rfl ?_
      refine R.loadB t22 hB900 rfl rfl rfl (hSA b900 hB900s.lt (⟨hB900.ne_vblk (hM.rowOf hc huc) (by decide), hB900.ne_vblk hM.outer (by decide)⟩)) ?_
      refine R.fld fa68_2 rfl ?_
      refine R.loadB t3 hB3 rfl rfl rfl (hSA b3 hB3s.lt (⟨hB3.ne_vblk (hM.rowOf hc huc) (by decide), hB3.ne_vblk hM.outer (by decide)⟩)) ?_
      refine R.ix (m := c) Try.underlying22 t35 (by decide) hMs.row rfl rfl hc ?_
      refine R.ldE (j := c) t35 hMs.row hEs rfl huc rfl hSB ?_
      refine R.fld fa68_0 rfl ?_
      refine R.loadB t3 hB3 rfl rfl rfl (hSA b3 hB3s.lt (⟨hB3.ne_vblk (hM.rowOf hc huc) (by decide), hB3.ne_vblk hM.outer (by decide)⟩)) ?_
      refine R.buildSlice [.int .i64 (b)] Try.underlying35 t3 rfl rfl (by simp [Value.cells]) (by simp) (fun _ _ _ hb => Nat.lt_of_lt_of_le hb.1 (Nat.le_trans hS0 hEs.size)) ?_
      intro b104 w6 hb104 hx6 hB104 hS104
      replace hb104 := Nat.le_trans hE.size hb104
      replace hM := hM.ext hx6
      replace hst := hst.ext hx6
      replace hrk := hrk.ext hx6
      replace hB900 := hB900.ext hx6
      replace hB3 := hB3.ext hx6
      replace hE := hE.ext hx6
      replace hEs := hEs.ext hx6
      have hru : SInts _ uc xss[c] := hM.rowOf hc huc
      have hMW := hM
      refine R.append (m := 1) Try.underlying35 Try.underlying35 t3 (by decide) rfl hru hS104.row (by simp [cellsOf, Value.cells, Value.oneCell']) rfl rfl (by omega) (by omega) (fun _ b hb => ⟨Nat.lt_of_lt_of_le hb.1 (Nat.le_trans hS0 hEs.size), (hb.2 rfl).1⟩) ?_
      intro v105 w105 hU105 hS105 hd105
      have hO := hM.outer.upS hU105 hru (by decide)
      replace hB900 := hB900.upS hU105 hru (by decide)
      replace hB3 := hB3.upS hU105 hru (by decide)
      replace hst := hst.upS hU105 hru (by decide)
      replace hrk := hrk.upS hU105 hru
      have hjb105 : ∀ x, vblk v105 = some x → vblk uc = some x ∨ w.heap.size ≤ x := fun x e => by
        have hsz := hE.size
        rcases hd105 with ⟨h1, _⟩ | ⟨b', h1, h2, _⟩
        · exact .inl (h1 ▸ e)
        · rw [h1] at e; simp at e; subst e; exact .inr (Nat.le_trans hsz h2)
      have hsM := Nat.le_trans hJ.ext.size hE.size
      replace hE := hE.trans hU105 (fun x _ h => .inr (.inr (.inl ⟨uc, List.mem_of_getElem? huc, h⟩)))
      have hR105 : SInts _ v105 (xss[c] ++ [(b)]) := SInts.app (ys := [(b)]) (m := 1) (by simpa [cellsOf, Value.cells, ints] using hS105) rfl
      clear hS104 hS105 hM
      refine R.ix (m := c) Try.underlying22 t35 (by decide) hO.row rfl rfl hc ?_
      refine R.stE (j := c) (u := v105) t35 hO rfl rfl hR105.one hc (fun _ x hx h => (h.2 rfl).2 hx) ?_
      intro w83 hU83 hs83 hO83
      have hR83 := hR105.upS hU83 hO (by decide)
      replace hB900 := hB900.upS hU83 hO (by decide)
      replace hB3 := hB3.upS hU83 hO (by decide)
      replace hst := hst.upS hU83 hO (by decide)
      replace hrk := hrk.upS hU83 hO
      replace hE := hE.trans hU83 (fun _ _ h => .inr (.inl h))
      have hM := MS.set hMW huc ((hU105.mono (fun _ _ h => .inl h)).trans hU83 (fun _ _ h => .inr h)) hO83 hR83 (fun b e => by
        rcases hd105 with ⟨h1, _⟩ | ⟨b', h1, h2, _⟩
        · exact .inl (h1 ▸ e)
        · rw [h1] at e; simp at e; subst e; exact .inr h2) hsM
      clear hMW hO hR105 hd105 hru hO83 hR83
      have ha1 : a < (xss.set c (xss[c] ++ [b])).length := by simpa using ha
      obtain ⟨ua, hua, _⟩ := hM.get a ha1
      have hea : (xss.set c (xss[c] ++ [b]))[a] = xss[a] := List.getElem_set_ne (by omega) _
      refine R.nil ?_
      refine E.seq ?_
      refine E.regionW (fun c x => x < w83.heap.size ∧ (c = false → vblk vs ≠ some x)) [120, 128]  mixed rfl (by kernel_rfl) ?_
      intro w7 hx7 hh7
      replace hst := hst.ext hx7
      replace hrk := hrk.ext hx7
      replace hM := hM.ext hx7
      replace hB900 := hB900.ext hx7
      replace hB3 := hB3.ext hx7
      replace hE := hE.ext hx7
      have hEs : Ext w7 w7 := Upd.refl _
      have hS0 := hx7.size
      have hSB : ∀ b, b < w7.heap.size → b < w83.heap.size ∧ (true = false → (fun x => vblk vs ≠ some x) b) := fun b hb => ⟨by rw [hh7] at hb; exact hb, nofun⟩
      have hSA : ∀ b, b < w7.heap.size → (fun x => vblk vs ≠ some x) b → b < w83.heap.size ∧ (false = false → (fun x => vblk vs ≠ some x) b) := fun b hb h => ⟨by rw [hh7] at hb; exact hb, fun _ => h⟩
      have hsts := hst
      have hrks := hrk
      have hMs := hM
      have hB900s := hB900
      have hB3s := hB3
      refine R.move ?_
      refine R.nilCheck rfl ?_
      refine R.fld fa108_0 rfl ?_
      refine R.loadB t22 hB900 rfl rfl rfl (hSA b900 hB900s.lt (hB900.ne_vblk hM.outer (by decide))) ?_
      refine R.fld fa68_1 rfl ?_
      refine R.loadB t3 hB3 rfl rfl rfl (hSA b3 hB3s.lt (hB3.ne_vblk hM.outer (by decide))) ?_
      refine R.move ?_
      refine R.nilCheck rfl ?_
      refine R.fld fa108_0 rfl ?_
      refine R.loadB t22 hB900 rfl rfl rfl (hSA b900 hB900s.lt (hB900.ne_vblk hM.outer (by decide))) ?_
      refine R.fld fa68_1 rfl ?_
      refine R.loadB t3 hB3 rfl rfl rfl (hSA b3 hB3s.lt (hB3.ne_vblk hM.outer (by decide))) ?_
      refine R.ix (m := a) Try.underlying22 t35 (by decide) hMs.row rfl rfl ha1 ?_
      refine R.ldE (j := a) t35 hMs.row hEs rfl hua rfl hSB ?_
      refine R.move ?_
      refine R.nilCheck rfl ?_
      refine R.fld fa108_0 rfl ?_
      refine R.loadB t22 hB900 rfl rfl rfl (hSA b900 hB900s.lt (hB900.ne_vblk hM.outer (by decide))) ?_
      refine R.fld fa68_1 rfl ?_
      refine R.loadB t3 hB3 rfl rfl rfl (hSA b3 hB3s.lt (hB3.ne_vblk hM.outer (by decide))) ?_
      refine R.ix (m := a) Try.underlying22 t35 (by decide) hMs.row rfl rfl ha1 ?_
      refine R.ldE (j := a) t35 hMs.row hEs rfl hua rfl hSB ?_
      refine R.len Try.underlying35 (hM.rowOf ha1 hua).row rfl ?_
      rw [hea]
      refine R.subN (m := xss[a].length) (n := 1) rfl rfl (by omega) (by omega) ?_
      obtain ⟨a131, c131, hv131, hc131, _⟩ := id (hM.rowOf ha1 hua)
      refine R.slc (l := 0) (r := xss[a].length - 1) Try.underlying35 t3 rfl hv131 rfl ⟨_, rfl⟩ (Nat.zero_le _) (Nat.le_trans (show xss[a].length - 1 ≤ (xss.set c (xss[c] ++ [b]))[a].length by rw [hea]; omega) hc131) ?_
      refine R.ix (m := a) Try.underlying22 t35 (by decide) hM.row rfl rfl ha1 ?_
      have hru : SInts _ (cut 1 ua 0 (xss[a].length - 1)) (xss[a].take (xss[a].length - 1)) := (by have q := SInts.take (hM.rowOf ha1 hua) (k := xss[a].length - 1) (by rw [hea]; omega); rw [hea] at q; exact q)
      refine R.stE (j := a) (u := cut 1 ua 0 (xss[a].length - 1)) t35 hM.outer rfl rfl hru.one ha1 (fun _ x hx h => h.2 rfl hx) ?_
      intro w85 hU85 hs85 hO85
      have hR85 := hru.upS hU85 hM.outer (by decide)
      replace hB900 := hB900.upS hU85 hM.outer (by decide)
      replace hB3 := hB3.upS hU85 hM.outer (by decide)
      replace hst := hst.upS hU85 hM.outer (by decide)
      replace hrk := hrk.upS hU85 hM.outer
      have hsM := Nat.le_trans hJ.ext.size hE.size
      replace hE := hE.trans hU85 (fun _ _ h => .inr (.inl h))
      replace hM := MS.set hM hua (hU85.mono (fun _ _ h => .inr h)) hO85 hR85 (fun b e => .inl (vblk_cut e)) hsM
      clear hru hO85 hR85
      rw [← List.dropLast_eq_take] at hM
      refine R.nil ?_
      refine E.seq ?_
      refine E.regionW (fun c x => x < w85.heap.size ∧ (c = false → x ≠ b900 ∧ vblk vt ≠ some x)) [137]  mixed rfl (by kernel_rfl) ?_
      intro w8 hx8 hh8
      replace hst := hst.ext hx8
      replace hrk := hrk.ext hx8
      replace hM := hM.ext hx8
      replace hB900 := hB900.ext hx8
      replace hB3 := hB3.ext hx8
      replace hE := hE.ext hx8
      have hEs : Ext w8 w8 := Upd.refl _
      have hS0 := hx8.size
      have hSB : ∀ b, b < w8.heap.size → b < w85.heap.size ∧ (true = false → (fun x => x ≠ b900 ∧ vblk vt ≠ some x) b) := fun b hb => ⟨by rw [hh8] at hb; exact hb, nofun⟩
      have hSA : ∀ b, b < w8.heap.size → (fun x => x ≠ b900 ∧ vblk vt ≠ some x) b → b < w85.heap.size ∧ (false = false → (fun x => x ≠ b900 ∧ vblk vt ≠ some x) b) := fun b hb h => ⟨by rw [hh8] at hb; exact hb, fun _ => h⟩
      have hsts := hst
      have hrks := hrk
      have hMs := hM
      have hB900s := hB900
      have hB3s := hB3
      refine R.move ?_
      refine R.move ?_
      refine R.nilCheck rfl ?_
      refine R.fld fa108_4 rfl ?_
      refine R.loadB t62 hB900 rfl rfl rfl (hSB b900 hB900s.lt) ?_
      refine R.loadA t68 hB3 rfl rfl rfl (hSA b3 hB3s.lt (⟨hB3.ne hB900 (by decide), fun e => hne3 e⟩)) ?_
      refine R.buildSlice [.agg #[.int .i64 b, .int .i64 (a : Nat), .int .i64 (((c : Nat) : Int))]] Try.underlying62 t68 rfl rfl (by simp [Value.cells]) (by simp) (fun _ _ _ hb => Nat.lt_of_lt_of_le hb.1 (Nat.le_trans hS0 hEs.size)) ?_
      intro b139 w9 hb139 hx9 hB139 hS139
      replace hb139 := Nat.le_trans hE.size hb139
      replace hst := hst.ext hx9
      replace hrk := hrk.ext hx9
      replace hM := hM.ext hx9
      replace hB900 := hB900.ext hx9
      replace hB3 := hB3.ext hx9
      replace hE := hE.ext hx9
      replace hEs := hEs.ext hx9
      refine R.append (m := 1) Try.underlying62 Try.underlying62 t68 (by decide) rfl hst hS139.row (by simp [cellsOf, Value.cells, Value.oneCell']) rfl rfl (by omega) (by omega) (fun _ b hb => ⟨Nat.lt_of_lt_of_le hb.1 (Nat.le_trans hS0 hEs.size), (hb.2 rfl).2⟩) ?_
      intro v140 w140 hU140 hS140 hd140
      have hsb140 : ∀ x, vblk v140 = some x → vblk vt = some x ∨ w.heap.size ≤ x := fun x e => by
        have hsz := hE.size
        rcases hd140 with ⟨h1, _⟩ | ⟨b', h1, h2, _⟩
        · exact .inl (h1 ▸ e)
        · rw [h1] at e; simp at e; subst e; exact .inr (Nat.le_trans hsz h2)
      have hft140 := Fresh.app' (Nat.le_trans hJ.ext.size hE.size) hJ.ft hd140
      replace hB900 := hB900.upS hU140 hst (by decide)
      replace hB3 := hB3.up hU140 (fun e => hne3 e)
      replace hM := hM.upS hU140 hst (by decide)
      replace hrk := hrk.upS hU140 hst
      replace hE := hE.trans hU140 (fun x _ h => .inr (.inr (.inr h)))
      have hT : Sl w140 68 3 v140 (ss ++ [(b, ((a : Nat) : Int), (((c : Nat) : Int)))]).length (stepsC (ss ++ [(b, ((a : Nat) : Int), (((c : Nat) : Int)))])) := by
        rw [stepsC_snoc, List.length_append]
        simpa [cellsOf, Value.cells] using hS140
      clear hS139 hS140 hst
      refine R.nilCheck rfl ?_
      refine R.fld fa108_4 rfl ?_
      refine R.store t62 hB900 rfl rfl hT.one (by simp) (fun _ h => (h.2 rfl).1 rfl) ?_
      intro w141 hU141 hs141 hN141
      replace hT := hT.upT hU141 hB900 (by decide)
      replace hM := hM.upT hU141 hB900 (by decide)
      replace hrk := hrk.upT hU141 hB900 rfl
      replace hE := hE.trans hU141 (fun x _ h => .inl h)
      replace hB900 : Blk _ b900 108 #[vs, .int .i64 H, vo, .map (some rm), v140, .int .i64 (nx : Nat)] := hN141
      refine R.nil ?_
      refine E.seq ?_
      refine E.regionP rfl ?_
      refine R.assign ?_
      refine R.nil ?_
      refine E.ret ?_
      exact ret1 (.bool true) rfl rfl ⟨_, rfl, hE, DoRes2.yes hdo rfl ⟨hB900, hM, hJ.ordI, hrk, hT, hft140, hJ.fb, hJ.fm, hJ.ext2 hE⟩ ⟨sub_set (sub_set sub_refl huc hjb105) hua (fun x e => .inl (vblk_cut e)), hsb140⟩⟩
  · refine calls_E (args := [.pointer (some ⟨b900, 0, none⟩), .agg #[.int .i64 (b), .int .i64 (f), .int .i64 (t)]]) 143 Try.func76 rfl rfl (by simp) ?_
    have hE : Upd (JB b900 vs us vt) w w := Upd.refl w
    refine E.seq ?_
    refine E.regionP rfl ?_
    refine R.box rfl nofun ?_
    intro b3 w1 hb3 hx1 hB3
    replace hb3 := Nat.le_trans hE.size hb3
    replace hM := hM.ext hx1
    replace hst := hst.ext hx1
    replace hrk := hrk.ext hx1
    replace hB900 := hB900.ext hx1
    replace hE := hE.ext hx1
    replace hB3 : Blk _ b3 68 #[.int .i64 (b), .int .i64 (f), .int .i64 (t)] := hB3
    refine R.assign ?_
    refine R.nil ?_
    refine E.seq ?_
    refine E.seq ?_
    refine E.regionW (fun _ b => b < w1.heap.size) [] mixed rfl (by kernel_rfl) ?_
    intro w2 hx2 hh2
    replace hM := hM.ext hx2
    replace hst := hst.ext hx2
    replace hrk := hrk.ext hx2
    replace hB900 := hB900.ext hx2
    replace hB3 := hB3.ext hx2
    replace hE := hE.ext hx2
    have hEs : Ext w2 w2 := Upd.refl _
    have hS0 := hx2.size
    have hSs : ∀ b, b < w2.heap.size → b < w1.heap.size := fun b hb => by rw [hh2] at hb; exact hb
    have hSa : ∀ b, b < w.heap.size → b < w1.heap.size := fun b hb => by have := hE.size; rw [hh2] at this; omega
    have hMs := hM
    have hsts := hst
    have hrks := hrk
    have hB900s := hB900
    have hB3s := hB3
    refine R.fld fa68_0 rfl ?_
    refine R.loadBE t3 hB3s hEs rfl rfl rfl hSs ?_
    refine R.lss (b := true) rfl rfl (decide_eq_true (hb1)) ?_
    refine R.move ?_
    refine R.gF rfl rfl rfl ?_
    refine R.gF rfl rfl rfl ?_
    refine R.gF rfl rfl rfl ?_
    refine R.gF rfl rfl rfl ?_
    refine R.gF rfl rfl rfl ?_
    refine R.gF rfl rfl rfl ?_
    refine R.gF rfl rfl rfl ?_
    refine R.pickT rfl ?_
    refine R.nil ?_
    refine E.condT rfl ?_
    refine E.seq ?_
    refine E.regionP rfl ?_
    refine R.assign ?_
    refine R.nil ?_
    refine E.ret ?_
    exact ret1 (.bool false) rfl rfl ⟨_, rfl, hE, DoRes2.no (by simp only [doL]; rw [if_pos (.inl hb1)]) rfl ⟨hB900, hM, hJ.ordI, hrk, hst, hJ.ft, hJ.fb, hJ.fm, hJ.ext2 hE⟩⟩
  · refine calls_E (args := [.pointer (some ⟨b900, 0, none⟩), .agg #[.int .i64 (b), .int .i64 (f), .int .i64 (t)]]) 143 Try.func76 rfl rfl (by simp) ?_
    have hE : Upd (JB b900 vs us vt) w w := Upd.refl w
    refine E.seq ?_
    refine E.regionP rfl ?_
    refine R.box rfl nofun ?_
    intro b3 w1 hb3 hx1 hB3
    replace hb3 := Nat.le_trans hE.size hb3
    replace hM := hM.ext hx1
    replace hst := hst.ext hx1
    replace hrk := hrk.ext hx1
    replace hB900 := hB900.ext hx1
    replace hE := hE.ext hx1
    replace hB3 : Blk _ b3 68 #[.int .i64 (b), .int .i64 (f), .int .i64 (t)] := hB3
    refine R.assign ?_
    refine R.nil ?_
    refine E.seq ?_
    refine E.seq ?_
    refine E.regionW (fun _ b => b < w1.heap.size) [] mixed rfl (by kernel_rfl) ?_
    intro w2 hx2 hh2
    replace hM := hM.ext hx2
    replace hst := hst.ext hx2
    replace hrk := hrk.ext hx2
    replace hB900 := hB900.ext hx2
    replace hB3 := hB3.ext hx2
    replace hE := hE.ext hx2
    have hEs : Ext w2 w2 := Upd.refl _
    have hS0 := hx2.size
    have hSs : ∀ b, b < w2.heap.size → b < w1.heap.size := fun b hb => by rw [hh2] at hb; exact hb
    have hSa : ∀ b, b < w.heap.size → b < w1.heap.size := fun b hb => by have := hE.size; rw [hh2] at this; omega
    have hMs := hM
    have hsts := hst
    have hrks := hrk
    have hB900s := hB900
    have hB3s := hB3
    refine R.fld fa68_0 rfl ?_
    refine R.loadBE t3 hB3s hEs rfl rfl rfl hSs ?_
    refine R.lss (b := false) rfl rfl (decide_eq_false (by omega)) ?_
    refine R.move ?_
    refine R.gT rfl rfl ?_
    refine R.move ?_
    refine R.gT rfl rfl ?_
    refine R.fld fa68_1 rfl ?_
    refine R.gT rfl rfl ?_
    refine R.loadBE t3 hB3s hEs rfl rfl rfl hSs ?_
    refine R.gT rfl rfl ?_
    refine R.callE2 ent79 (top_ _ hB900 hM.mat hx6) rfl rfl (fun _ _ hb => Nat.lt_of_lt_of_le hb (Nat.le_trans hS0 hEs.size)) ?_
    rintro v12 w3 hx3 rfl
    replace hM := hM.ext hx3
    replace hst := hst.ext hx3
    replace hrk := hrk.ext hx3
    replace hB900 := hB900.ext hx3
    replace hB3 := hB3.ext hx3
    replace hE := hE.ext hx3
    replace hEs := hEs.ext hx3
    refine R.gT rfl rfl ?_
    refine R.fld fa68_0 rfl ?_
    refine R.gT rfl rfl ?_
    refine R.loadBE t3 hB3s hEs rfl rfl rfl hSs ?_
    refine R.gT rfl rfl ?_
    refine R.neq (b := true) rfl rfl (by simpa using htop) ?_
    refine R.pickF rfl ?_
    refine R.nil ?_
    refine E.condT rfl ?_
    refine E.seq ?_
    refine E.regionP rfl ?_
    refine R.assign ?_
    refine R.nil ?_
    refine E.ret ?_
    exact ret1 (.bool false) rfl rfl ⟨_, rfl, hE, DoRes2.no (by simp only [doL]; rw [if_pos (.inr htop)]) rfl ⟨hB900, hM, hJ.ordI, hrk, hst, hJ.ft, hJ.fb, hJ.fm, hJ.ext2 hE⟩⟩
theorem do_ (w0 w : World) {b900 H rm nx : Nat} {vs vo vt : Value} {us : List Value} {xss : List (List Int)} {ord : List Int} {ss : List (Int × Int × Int)} {b f t : Int} (hJ : Job w0 w b900 vs us vo rm vt xss H ord ss nx) (hl : xss.length ≤ 30) (hx : ∀ xs ∈ xss, xs.length ≤ 6) (hnx : nx ≤ ord.length) (hol : ord.length < 1000000) (hsl : ss.length < 1000000) :
    Calls Try.prog 76 #[.pointer (some ⟨b900, 0, none⟩), .agg #[.int .i64 b, .int .i64 f, .int .i64 t]] w (Ret fun r w' => Upd (JB b900 vs us vt) w w' ∧ DoRes w0 w' r b900 vs us vo rm vt xss H ord ss nx (b, f, t)) :=
  (do2_ w0 w hJ hl hx hnx hol hsl).mono fun _ _ ⟨v, h1, h2, h3⟩ => ⟨v, h1, h2, h3.weak⟩
end Go.Proofs.Ytfdmndkoiheebaa
