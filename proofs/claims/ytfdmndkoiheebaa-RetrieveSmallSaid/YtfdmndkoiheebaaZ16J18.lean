import Derived.Test.YtfdmndkoiheebaaZ16J17
namespace Go.Proofs.Ytfdmndkoiheebaa
open Go Go.RowKit
theorem doL_back {xss ys : List (List Int)} {H nx n' : Nat} {ord : List Int} {b f t : Int} (h : doL xss H ord nx (b, f, t) = some (ys, n')) :
    ∃ (a : Nat) (ha : a < ys.length), f = a ∧ ys.length = xss.length ∧
      ((t = -1 ∧ nx + 1 = n' ∧ ys.set a (ys[a] ++ [b]) = xss) ∨
       (nx = n' ∧ ∃ (c : Nat) (hc : c < ys.length), t = c ∧ c ≠ a ∧ 0 < ys[c].length ∧ ∃ ha' : a < (ys.set c (ys[c].take (ys[c].length - 1))).length, (ys.set c (ys[c].take (ys[c].length - 1))).set a ((ys.set c (ys[c].take (ys[c].length - 1)))[a] ++ [b]) = xss ∧ (ys.set c (ys[c].take (ys[c].length - 1)))[a] = ys[a])) := by
  have hb : ¬ (b < 1 ∨ topL xss f ≠ b) := fun hc => by simp only [doL] at h; rw [if_pos hc] at h; cases h
  obtain ⟨a, ha, hl, rfl, hlast⟩ := topL_pos (show topL xss f = b by omega) (by omega)
  have hga : xss.getD a [] = xss[a] := by simp [ha]
  have hback : xss[a].dropLast ++ [b] = xss[a] := by
    rw [← hlast, ← List.getLast_eq_getElem (List.ne_nil_of_length_pos hl)]
    exact List.dropLast_concat_getLast _
  simp only [doL] at h
  rw [if_neg hb, Int.toNat_natCast, hga] at h
  split at h
  · rename_i ht
    split at h
    · cases h
    · obtain ⟨rfl, rfl⟩ := Prod.mk.inj (Option.some.inj h)
      refine ⟨a, by simpa using ha, rfl, by simp, .inl ⟨ht, rfl, ?_⟩⟩
      rw [List.getElem_set_self, hback, List.set_set, List.set_getElem_self]
  · rename_i ht
    split at h
    · cases h
    · rename_i hc
      obtain ⟨c, rfl⟩ : ∃ c : Nat, t = c := ⟨t.toNat, by omega⟩
      have hcl : c < xss.length := by omega
      have hgc : xss.getD c [] = xss[c] := by simp [hcl]
      rw [Int.toNat_natCast, hgc] at h
      obtain ⟨rfl, rfl⟩ := Prod.mk.inj (Option.some.inj h)
      have hca : c ≠ a := by omega
      have e1 : ((xss.set c (xss[c] ++ [b])).set a xss[a].dropLast)[c]'(by simpa using hcl) = xss[c] ++ [b] := by
        rw [List.getElem_set_ne (by omega), List.getElem_set_self]
      have e2 : (((xss.set c (xss[c] ++ [b])).set a xss[a].dropLast)[c]'(by simpa using hcl)).take ((((xss.set c (xss[c] ++ [b])).set a xss[a].dropLast)[c]'(by simpa using hcl)).length - 1) = xss[c] := by
        rw [e1]; simp
      have e3 : ((xss.set c (xss[c] ++ [b])).set a xss[a].dropLast).set c xss[c] = xss.set a xss[a].dropLast := by
        rw [List.set_comm _ _ (by omega), List.set_set, List.set_getElem_self]
      have e4 : ((xss.set c (xss[c] ++ [b])).set a xss[a].dropLast)[a]'(by simpa using ha) = xss[a].dropLast := List.getElem_set_self _
      refine ⟨a, by simpa using ha, rfl, by simp, .inr ⟨rfl, c, by simpa using hcl, rfl, hca, by rw [e1]; simp, by simpa using ha, ?_, ?_⟩⟩
      · simp only [e2, e3]
        rw [List.getElem_set_self, hback, List.set_set, List.set_getElem_self]
      · rw [List.getElem_set_ne hca]
theorem stepsC_last (ss : List (Int × Int × Int)) (s : Int × Int × Int) : ((stepsC (ss ++ [s])).drop (ss.length * 3)).take 3 = [.int .i64 s.1, .int .i64 s.2.1, .int .i64 s.2.2] := by
  have h := steps_take (ss := ss ++ [s]) (i := ss.length) (by simp)
  simpa using h
theorem Sl.less {w : World} {vt : Value} {ss : List (Int × Int × Int)} {s : Int × Int × Int} (h : Sl w 68 3 vt (ss ++ [s]).length (stepsC (ss ++ [s]))) : Sl w 68 3 (Ytfdmndkoiheebaa.cut 3 vt 0 ss.length) ss.length (stepsC ss) := by
  have := h.cut (l := 0) (r := ss.length) (Nat.zero_le _) (by simp)
  have e : ((stepsC (ss ++ [s])).drop (0 * 3)).take ((ss.length - 0) * 3) = stepsC ss := by
    rw [stepsC_snoc, Nat.zero_mul, List.drop_zero, Nat.sub_zero, List.take_append_of_le_length (by rw [stepsC_len]; exact Nat.le_refl _), ← stepsC_len, List.take_length]
  rw [e, Nat.sub_zero] at this
  exact this
set_option maxHeartbeats 6400000 in
theorem undo_ (w0 w : World) {b900 H rm nx n' : Nat} {vs vo vt : Value} {us : List Value} {xss ys : List (List Int)} {ord : List Int} {ss : List (Int × Int × Int)} {b f t : Int} (hJ : Job w0 w b900 vs us vo rm vt ys H ord (ss ++ [(b, f, t)]) n') (hdo : doL xss H ord nx (b, f, t) = some (ys, n')) (hx : ∀ xs ∈ ys, xs.length ≤ 6) (hnx : nx < 1000000) (hsl : ss.length < 1000000) :
    Calls Try.prog 77 #[.pointer (some ⟨b900, 0, none⟩)] w (Ret fun _ w' => Upd (JB b900 vs us vt) w w' ∧ ∃ us' vt', Job w0 w' b900 vs us' vo rm vt' xss H ord ss nx ∧ Sub w.heap.size us vt us' vt') := by
  have hB900 := hJ.blk
  have hM := hJ.ms
  have hrk := hJ.ranks
  have hst := hJ.steps
  have ho := hJ.ordI.ext hJ.ext
  obtain ⟨a, ha, rfl, hlen, ⟨rfl, rfl, hxs⟩ | ⟨rfl, c, hc, rfl, hca, hlc, ha1, hxs, hea⟩⟩ := doL_back hdo
  · have hxa := hx _ (List.getElem_mem ha)
    refine calls_E (args := [.pointer (some ⟨b900, 0, none⟩)]) 84 Try.func77 rfl rfl (by simp) ?_
    have hE : Upd (JB b900 vs us vt) w w := Upd.refl w
    refine E.seq ?_
    refine E.regionW (fun _ b => b < w.heap.size) [] mixed rfl (by kernel_rfl) ?_
    intro w1 hx1 hh1
    replace hM := hM.ext hx1
    replace hst := hst.ext hx1
    replace hrk := hrk.ext hx1
    replace hB900 := hB900.ext hx1
    replace hE := hE.ext hx1
    have hEs : Ext w1 w1 := Upd.refl _
    have hS0 := hx1.size
    have hSs : ∀ b, b < w1.heap.size → b < w.heap.size := fun b hb => by rw [hh1] at hb; exact hb
    have hSa : ∀ b, b < w.heap.size → b < w.heap.size := fun b hb => by have := hE.size; rw [hh1] at this; omega
    have hMs := hM
    have hsts := hst
    have hrks := hrk
    have hB900s := hB900
    refine R.move ?_
    refine R.nilCheck rfl ?_
    refine R.fld fa108_4 rfl ?_
    refine R.loadBE t62 hB900s hEs rfl rfl rfl hSs ?_
    refine R.move ?_
    refine R.nilCheck rfl ?_
    refine R.fld fa108_4 rfl ?_
    refine R.loadBE t62 hB900s hEs rfl rfl rfl hSs ?_
    refine R.len Try.underlying62 hst.row rfl ?_
    rw [List.length_append, List.length_singleton]
    refine R.subN (m := ss.length + 1) (n := 1) rfl rfl (by omega) (by omega) ?_
    rw [Nat.add_sub_cancel]
    refine R.ix (m := ss.length) Try.underlying62 t68 (by decide) hst.row rfl rfl (by simp) ?_
    refine R.loadE (j := ss.length * 3) t68 (by decide) hst.row rfl (stepsC_last ss (b, ((a : Nat) : Int), -1)) rfl rfl (fun x e => hSs x (hst.blk_lt e)) ?_
    refine R.alloc t68 (fun _ _ _ hb => Nat.lt_of_lt_of_le hb (Nat.le_trans hS0 hEs.size)) ?_
    intro b2 w2 hb2 hx2 hB2
    replace hb2 := Nat.le_trans hE.size hb2
    replace hM := hM.ext hx2
    replace hst := hst.ext hx2
    replace hrk := hrk.ext hx2
    replace hB900 := hB900.ext hx2
    replace hE := hE.ext hx2
    replace hEs := hEs.ext hx2
    replace hB2 : Blk _ b2 68 #[.int .i64 0, .int .i64 0, .int .i64 0] := hB2
    have hne2 : vblk vt ≠ some b2 := fun e => by have := hJ.steps.blk_lt e; omega
    refine R.storeA t68 hB2 rfl rfl rfl rfl (ones3 rfl rfl rfl) (fun _ h => Nat.not_lt.2 hb2 h) ?_
    intro w91 hU91 hs91 hN91
    replace hM := hM.upT hU91 hB2 (by decide)
    replace hst := hst.up hU91 (fun x e e1 => hne2 (by have e2 : x = b2 := e1; rw [← e2]; exact e))
    replace hrk := hrk.upT hU91 hB2 rfl
    replace hB900 := hB900.upT hU91 hB2 (by decide)
    replace hE := hE.trans hU91 (fun x hx h => by have e2 : x = b2 := h; omega)
    replace hB2 : Blk _ b2 68 #[.int .i64 (b), .int .i64 (((a : Nat) : Int)), .int .i64 (-1)] := hN91
    refine R.nil ?_
    refine E.seq ?_
    refine E.regionW (fun c x => x < w91.heap.size ∧ (c = false → x ≠ b900)) [19, 23]  mixed rfl (by kernel_rfl) ?_
    intro w3 hx3 hh3
    replace hM := hM.ext hx3
    replace hst := hst.ext hx3
    replace hrk := hrk.ext hx3
    replace hB900 := hB900.ext hx3
    replace hB2 := hB2.ext hx3
    replace hE := hE.ext hx3
    have hEs : Ext w3 w3 := Upd.refl _
    have hS0 := hx3.size
    have hSB : ∀ b, b < w3.heap.size → b < w91.heap.size ∧ (true = false → (fun x => x ≠ b900) b) := fun b hb => ⟨by rw [hh3] at hb; exact hb, nofun⟩
    have hSA : ∀ b, b < w3.heap.size → (fun x => x ≠ b900) b → b < w91.heap.size ∧ (false = false → (fun x => x ≠ b900) b) := fun b hb h => ⟨by rw [hh3] at hb; exact hb, fun _ => h⟩
    have hMs := hM
    have hsts := hst
    have hrks := hrk
    have hB900s := hB900
    have hB2s := hB2
    refine R.move ?_
    refine R.move ?_
    refine R.nilCheck rfl ?_
    refine R.fld fa108_4 rfl ?_
    refine R.loadB t62 hB900 rfl rfl rfl (hSB b900 hB900s.lt) ?_
    refine R.move ?_
    refine R.nilCheck rfl ?_
    refine R.fld fa108_4 rfl ?_
    refine R.loadB t62 hB900 rfl rfl rfl (hSB b900 hB900s.lt) ?_
    refine R.len Try.underlying62 hst.row rfl ?_
    rw [List.length_append, List.length_singleton]
    refine R.subN (m := ss.length + 1) (n := 1) rfl rfl (by omega) (by omega) ?_
    rw [Nat.add_sub_cancel]
    obtain ⟨a26, c26, hv26, hc26, _⟩ := id hst
    refine R.slc (l := 0) (r := ss.length) Try.underlying62 t68 rfl hv26 rfl ⟨_, rfl⟩ (Nat.zero_le _) (by simp at hc26; omega) ?_
    refine R.nilCheck rfl ?_
    refine R.fld fa108_4 rfl ?_
    replace hst := hst.less
    refine R.store t62 hB900 rfl rfl hst.one (by simp) (fun _ h => h.2 rfl rfl) ?_
    intro w92 hU92 hs92 hN92
    replace hM := hM.upT hU92 hB900 (by decide)
    replace hst := hst.upT hU92 hB900 (by decide)
    replace hrk := hrk.upT hU92 hB900 rfl
    replace hB2 := hB2.upT hU92 hB900 (by decide)
    replace hE := hE.trans hU92 (fun x _ h => .inl h)
    have hne2 : vblk (cut 3 vt 0 ss.length) ≠ some b2 := fun e => hne2 (vblk_cut e)
    replace hB900 : Blk _ b900 108 #[vs, .int .i64 H, vo, .map (some rm), cut 3 vt 0 ss.length, .int .i64 ((nx + 1 : Nat) : Int)] := hN92
    refine R.nil ?_
    refine E.seq ?_
    refine E.seq ?_
    refine E.regionP rfl ?_
    refine R.fld fa68_2 rfl ?_
    refine R.loadB t3 hB2 rfl rfl rfl trivial ?_
    refine R.eql (b := true) rfl rfl (by simp) ?_
    refine R.nil ?_
    refine E.condT rfl ?_
    refine E.regionP rfl ?_
    refine R.move ?_
    refine R.nilCheck rfl ?_
    refine R.fld fa108_5 rfl ?_
    refine R.loadB t3 hB900 rfl rfl rfl trivial ?_
    refine R.subN (m := nx + 1) (n := 1) rfl rfl (by omega) (by omega) ?_
    rw [Nat.add_sub_cancel]
    refine R.nilCheck rfl ?_
    refine R.fld fa108_5 rfl ?_
    refine R.store t3 hB900 rfl rfl rfl (by simp) nofun ?_
    intro w93 hU93 hs93 hN93
    replace hM := hM.upT hU93 hB900 (by decide)
    replace hst := hst.upT hU93 hB900 (by decide)
    replace hrk := hrk.upT hU93 hB900 rfl
    replace hB2 := hB2.upT hU93 hB900 (by decide)
    replace hE := hE.trans hU93 (fun x _ h => .inl h)
    obtain ⟨ua, hua, _⟩ := hM.get a ha
    replace hB900 : Blk _ b900 108 #[vs, .int .i64 H, vo, .map (some rm), cut 3 vt 0 ss.length, .int .i64 (nx : Nat)] := hN93
    refine R.nil ?_
    refine E.regionW (fun c x => x < w93.heap.size ∧ (c = false → vblk ua ≠ some x ∧ vblk vs ≠ some x)) [78]  mixed rfl (by kernel_rfl) ?_
    intro w4 hx4 hh4
    replace hM := hM.ext hx4
    replace hst := hst.ext hx4
    replace hrk := hrk.ext hx4
    replace hB900 := hB900.ext hx4
    replace hB2 := hB2.ext hx4
    replace hE := hE.ext hx4
    have hEs : Ext w4 w4 := Upd.refl _
    have hS0 := hx4.size
    have hSB : ∀ b, b < w4.heap.size → b < w93.heap.size ∧ (true = false → (fun x => vblk ua ≠ some x ∧ vblk vs ≠ some x) b) := fun b hb => ⟨by rw [hh4] at hb; exact hb, nofun⟩
    have hSA : ∀ b, b < w4.heap.size → (fun x => vblk ua ≠ some x ∧ vblk vs ≠ some x) b → b < w93.heap.size ∧ (false = false → (fun x => vblk ua ≠ some x ∧ vblk vs ≠ some x) b) := fun b hb h => ⟨by rw [hh4] at hb; exact hb, fun _ => h⟩
    have hMs := hM
    have hsts := hst
    have hrks := hrk
    have hB900s := hB900
    have hB2s := hB2
    refine R.move ?_
    refine R.nilCheck rfl ?_
    refine R.fld fa108_0 rfl ?_
    refine R.loadB t22 hB900 rfl rfl rfl (hSA b900 hB900s.lt (⟨hB900.ne_vblk (hM.rowOf ha hua) (by decide), hB900.ne_vblk hM.outer (by decide)⟩)) ?_
    refine R.fld fa68_1 rfl ?_
    refine R.loadB t3 hB2 rfl rfl rfl (hSA b2 hB2s.lt (⟨hB2.ne_vblk (hM.rowOf ha hua) (by decide), hB2.ne_vblk hM.outer (by decide)⟩)) ?_
    refine R.move ?_
    refine R.nilCheck rfl ?_
    refine R.fld fa108_0 rfl ?_
    refine R.loadB t22 hB900 rfl rfl rfl (hSA b900 hB900s.lt (⟨hB900.ne_vblk (hM.rowOf ha hua) (by decide), hB900.ne_vblk hM.outer (by decide)⟩)) ?_
    refine R.fld fa68_1 rfl ?_
    refine R.loadB t3 hB2 rfl rfl rfl (hSA b2 hB2s.lt (⟨hB2.ne_vblk (hM.rowOf ha hua) (by decide), hB2.ne_vblk hM.outer (by decide)⟩)) ?_
    refine R.ix (m := a) Try.underlying22 t35 (by decide) hMs.row rfl rfl ha ?_
    refine R.ldE (j := a) t35 hMs.row hEs rfl hua rfl hSB ?_
    refine R.fld fa68_0 rfl ?_
    refine R.loadB t3 hB2 rfl rfl rfl (hSA b2 hB2s.lt (⟨hB2.ne_vblk (hM.rowOf ha hua) (by decide), hB2.ne_vblk hM.outer (by decide)⟩)) ?_
    refine R.buildSlice [.int .i64 (b)] Try.underlying35 t3 rfl rfl (by simp [Value.cells]) (by simp) (fun _ _ _ hb => Nat.lt_of_lt_of_le hb.1 (Nat.le_trans hS0 hEs.size)) ?_
    intro b81 w5 hb81 hx5 hB81 hS81
    replace hb81 := Nat.le_trans hE.size hb81
    replace hM := hM.ext hx5
    replace hst := hst.ext hx5
    replace hrk := hrk.ext hx5
    replace hB900 := hB900.ext hx5
    replace hB2 := hB2.ext hx5
    replace hE := hE.ext hx5
    replace hEs := hEs.ext hx5
    have hru : SInts _ ua ys[a] := hM.rowOf ha hua
    have hMW := hM
    refine R.append (m := 1) Try.underlying35 Try.underlying35 t3 (by decide) rfl hru hS81.row (by simp [cellsOf, Value.cells, Value.oneCell']) rfl rfl (by omega) (by omega) (fun _ b hb => ⟨Nat.lt_of_lt_of_le hb.1 (Nat.le_trans hS0 hEs.size), (hb.2 rfl).1⟩) ?_
    intro v82 w82 hU82 hS82 hd82
    have hO := hM.outer.upS hU82 hru (by decide)
    replace hB900 := hB900.upS hU82 hru (by decide)
    replace hB2 := hB2.upS hU82 hru (by decide)
    replace hst := hst.upS hU82 hru (by decide)
    replace hrk := hrk.upS hU82 hru
    have hjb82 : ∀ x, vblk v82 = some x → vblk ua = some x ∨ w.heap.size ≤ x := fun x e => by
      have hsz := hE.size
      rcases hd82 with ⟨h1, _⟩ | ⟨b', h1, h2, _⟩
      · exact .inl (h1 ▸ e)
      · rw [h1] at e; simp at e; subst e; exact .inr (Nat.le_trans hsz h2)
    have hsM := Nat.le_trans hJ.ext.size hE.size
    replace hE := hE.trans hU82 (fun x hx h => .inr (.inr (.inl ⟨ua, List.mem_of_getElem? hua, h⟩)))
    have hR82 : SInts _ v82 (ys[a] ++ [(b)]) := SInts.app (ys := [(b)]) (m := 1) (by simpa [cellsOf, Value.cells, ints] using hS82) rfl
    clear hS81 hS82 hM
    refine R.ix (m := a) Try.underlying22 t35 (by decide) hO.row rfl rfl ha ?_
    refine R.stE (j := a) (u := v82) t35 hO rfl rfl hR82.one ha (fun _ x hx h => (h.2 rfl).2 hx) ?_
    intro w83 hU83 hs83 hO83
    have hR83 := hR82.upS hU83 hO (by decide)
    replace hB900 := hB900.upS hU83 hO (by decide)
    replace hB2 := hB2.upS hU83 hO (by decide)
    replace hst := hst.upS hU83 hO (by decide)
    replace hrk := hrk.upS hU83 hO
    replace hE := hE.trans hU83 (fun _ _ h => .inr (.inl h))
    have hM := MS.set hMW hua ((hU82.mono (fun _ _ h => .inl h)).trans hU83 (fun _ _ h => .inr h)) hO83 hR83 (fun b e => by
      rcases hd82 with ⟨h1, _⟩ | ⟨b', h1, h2, _⟩
      · exact .inl (h1 ▸ e)
      · rw [h1] at e; simp at e; subst e; exact .inr h2) hsM
    clear hMW hO hR82 hd82 hru hO83 hR83
    refine R.nil ?_
    exact end0 rfl ⟨_, rfl, hE, _, _, by have hM2 := hM; rw [hxs] at hM2; exact ⟨hB900, hM2, hJ.ordI, hrk, hst, fun x e => hJ.ft x (vblk_cut e), hJ.fb, hJ.fm, hJ.ext2 hE⟩, sub_set sub_refl hua hjb82, fun x e => .inl (vblk_cut e)⟩
  · have hxa := hx _ (List.getElem_mem ha)
    have hxc := hx _ (List.getElem_mem hc)
    refine calls_E (args := [.pointer (some ⟨b900, 0, none⟩)]) 84 Try.func77 rfl rfl (by simp) ?_
    have hE : Upd (JB b900 vs us vt) w w := Upd.refl w
    refine E.seq ?_
    refine E.regionW (fun _ b => b < w.heap.size) [] mixed rfl (by kernel_rfl) ?_
    intro w1 hx1 hh1
    replace hM := hM.ext hx1
    replace hst := hst.ext hx1
    replace hrk := hrk.ext hx1
    replace hB900 := hB900.ext hx1
    replace hE := hE.ext hx1
    have hEs : Ext w1 w1 := Upd.refl _
    have hS0 := hx1.size
    have hSs : ∀ b, b < w1.heap.size → b < w.heap.size := fun b hb => by rw [hh1] at hb; exact hb
    have hSa : ∀ b, b < w.heap.size → b < w.heap.size := fun b hb => by have := hE.size; rw [hh1] at this; omega
    have hMs := hM
    have hsts := hst
    have hrks := hrk
    have hB900s := hB900
    refine R.move ?_
    refine R.nilCheck rfl ?_
    refine R.fld fa108_4 rfl ?_
    refine R.loadBE t62 hB900s hEs rfl rfl rfl hSs ?_
    refine R.move ?_
    refine R.nilCheck rfl ?_
    refine R.fld fa108_4 rfl ?_
    refine R.loadBE t62 hB900s hEs rfl rfl rfl hSs ?_
    refine R.len Try.underlying62 hst.row rfl ?_
    rw [List.length_append, List.length_singleton]
    refine R.subN (m := ss.length + 1) (n := 1) rfl rfl (by omega) (by omega) ?_
    rw [Nat.add_sub_cancel]
    refine R.ix (m := ss.length) Try.underlying62 t68 (by decide) hst.row rfl rfl (by simp) ?_
    refine R.loadE (j := ss.length * 3) t68 (by decide) hst.row rfl (stepsC_last ss (b, ((a : Nat) : Int), ((c : Nat) : Int))) rfl rfl (fun x e => hSs x (hst.blk_lt e)) ?_
    refine R.alloc t68 (fun _ _ _ hb => Nat.lt_of_lt_of_le hb (Nat.le_trans hS0 hEs.size)) ?_
    intro b2 w2 hb2 hx2 hB2
    replace hb2 := Nat.le_trans hE.size hb2
    replace hM := hM.ext hx2
    replace hst := hst.ext hx2
    replace hrk := hrk.ext hx2
    replace hB900 := hB900.ext hx2
    replace hE := hE.ext hx2
    replace hEs := hEs.ext hx2
    replace hB2 : Blk _ b2 68 #[.int .i64 0, .int .i64 0, .int .i64 0] := hB2
    have hne2 : vblk vt ≠ some b2 := fun e => by have := hJ.steps.blk_lt e; omega
    refine R.storeA t68 hB2 rfl rfl rfl rfl (ones3 rfl rfl rfl) (fun _ h => Nat.not_lt.2 hb2 h) ?_
    intro w91 hU91 hs91 hN91
    replace hM := hM.upT hU91 hB2 (by decide)
    replace hst := hst.up hU91 (fun x e e1 => hne2 (by have e2 : x = b2 := e1; rw [← e2]; exact e))
    replace hrk := hrk.upT hU91 hB2 rfl
    replace hB900 := hB900.upT hU91 hB2 (by decide)
    replace hE := hE.trans hU91 (fun x hx h => by have e2 : x = b2 := h; omega)
    replace hB2 : Blk _ b2 68 #[.int .i64 (b), .int .i64 (((a : Nat) : Int)), .int .i64 (((c : Nat) : Int))] := hN91
    refine R.nil ?_
    refine E.seq ?_
    refine E.regionW (fun c x => x < w91.heap.size ∧ (c = false → x ≠ b900)) [19, 23]  mixed rfl (by kernel_rfl) ?_
    intro w3 hx3 hh3
    replace hM := hM.ext hx3
    replace hst := hst.ext hx3
    replace hrk := hrk.ext hx3
    replace hB900 := hB900.ext hx3
    replace hB2 := hB2.ext hx3
    replace hE := hE.ext hx3
    have hEs : Ext w3 w3 := Upd.refl _
    have hS0 := hx3.size
    have hSB : ∀ b, b < w3.heap.size → b < w91.heap.size ∧ (true = false → (fun x => x ≠ b900) b) := fun b hb => ⟨by rw [hh3] at hb; exact hb, nofun⟩
    have hSA : ∀ b, b < w3.heap.size → (fun x => x ≠ b900) b → b < w91.heap.size ∧ (false = false → (fun x => x ≠ b900) b) := fun b hb h => ⟨by rw [hh3] at hb; exact hb, fun _ => h⟩
    have hMs := hM
    have hsts := hst
    have hrks := hrk
    have hB900s := hB900
    have hB2s := hB2
    refine R.move ?_
    refine R.move ?_
    refine R.nilCheck rfl ?_
    refine R.fld fa108_4 rfl ?_
    refine R.loadB t62 hB900 rfl rfl rfl (hSB b900 hB900s.lt) ?_
    refine R.move ?_
    refine R.nilCheck rfl ?_
    refine R.fld fa108_4 rfl ?_
    refine R.loadB t62 hB900 rfl rfl rfl (hSB b900 hB900s.lt) ?_
    refine R.len Try.underlying62 hst.row rfl ?_
    rw [List.length_append, List.length_singleton]
    refine R.subN (m := ss.length + 1) (n := 1) rfl rfl (by omega) (by omega) ?_
    rw [Nat.add_sub_cancel]
    obtain ⟨a26, c26, hv26, hc26, _⟩ := id hst
    refine R.slc (l := 0) (r := ss.length) Try.underlying62 t68 rfl hv26 rfl ⟨_, rfl⟩ (Nat.zero_le _) (by simp at hc26; omega) ?_
    refine R.nilCheck rfl ?_
    refine R.fld fa108_4 rfl ?_
    replace hst := hst.less
    refine R.store t62 hB900 rfl rfl hst.one (by simp) (fun _ h => h.2 rfl rfl) ?_
    intro w92 hU92 hs92 hN92
    replace hM := hM.upT hU92 hB900 (by decide)
    replace hst := hst.upT hU92 hB900 (by decide)
    replace hrk := hrk.upT hU92 hB900 rfl
    replace hB2 := hB2.upT hU92 hB900 (by decide)
    replace hE := hE.trans hU92 (fun x _ h => .inl h)
    have hne2 : vblk (cut 3 vt 0 ss.length) ≠ some b2 := fun e => hne2 (vblk_cut e)
    replace hB900 : Blk _ b900 108 #[vs, .int .i64 H, vo, .map (some rm), cut 3 vt 0 ss.length, .int .i64 (nx : Nat)] := hN92
    refine R.nil ?_
    refine E.seq ?_
    refine E.seq ?_
    refine E.regionP rfl ?_
    refine R.fld fa68_2 rfl ?_
    refine R.loadB t3 hB2 rfl rfl rfl trivial ?_
    refine R.eql (b := false) rfl rfl (by simp <;> omega) ?_
    obtain ⟨uc, huc, _⟩ := hM.get c hc
    refine R.nil ?_
    refine E.condF rfl ?_
    refine E.regionW (fun c x => x < w92.heap.size ∧ (c = false → vblk vs ≠ some x)) [52, 60]  mixed rfl (by kernel_rfl) ?_
    intro w4 hx4 hh4
    replace hM := hM.ext hx4
    replace hst := hst.ext hx4
    replace hrk := hrk.ext hx4
    replace hB900 := hB900.ext hx4
    replace hB2 := hB2.ext hx4
    replace hE := hE.ext hx4
    have hEs : Ext w4 w4 := Upd.refl _
    have hS0 := hx4.size
    have hSB : ∀ b, b < w4.heap.size → b < w92.heap.size ∧ (true = false → (fun x => vblk vs ≠ some x) b) := fun b hb => ⟨by rw [hh4] at hb; exact hb, nofun⟩
    have hSA : ∀ b, b < w4.heap.size → (fun x => vblk vs ≠ some x) b → b < w92.heap.size ∧ (false = false → (fun x => vblk vs ≠ some x) b) := fun b hb h => ⟨by rw [hh4] at hb; exact hb, fun _ => h⟩
    have hMs := hM
    have hsts := hst
    have hrks := hrk
    have hB900s := hB900
    have hB2s := hB2
    refine R.move ?_
    refine R.nilCheck rfl ?_
    refine R.fld fa108_0 rfl ?_
    refine R.loadB t22 hB900 rfl rfl rfl (hSA b900 hB900s.lt (hB900.ne_vblk hM.outer (by decide))) ?_
    refine R.fld fa68_2 rfl ?_
    refine R.loadB t3 hB2 rfl rfl rfl (hSA b2 hB2s.lt (hB2.ne_vblk hM.outer (by decide))) ?_
    refine R.move ?_
    refine R.nilCheck rfl ?_
    refine R.fld fa108_0 rfl ?_
    refine R.loadB t22 hB900 rfl rfl rfl (hSA b900 hB900s.lt (hB900.ne_vblk hM.outer (by decide))) ?_
    refine R.fld fa68_2 rfl ?_
    refine R.loadB t3 hB2 rfl rfl rfl (hSA b2 hB2s.lt (hB2.ne_vblk hM.outer (by decide))) ?_
    refine R.ix (m := c) Try.underlying22 t35 (by decide) hMs.row rfl rfl hc ?_
    refine R.ldE (j := c) t35 hMs.row hEs rfl huc rfl hSB ?_
    refine R.move ?_
    refine R.nilCheck rfl ?_
    refine R.fld fa108_0 rfl ?_
    refine R.loadB t22 hB900 rfl rfl rfl (hSA b900 hB900s.lt (hB900.ne_vblk hM.outer (by decide))) ?_
    refine R.fld fa68_2 rfl ?_
    refine R.loadB t3 hB2 rfl rfl rfl (hSA b2 hB2s.lt (hB2.ne_vblk hM.outer (by decide))) ?_
    refine R.ix (m := c) Try.underlying22 t35 (by decide) hMs.row rfl rfl hc ?_
    refine R.ldE (j := c) t35 hMs.row hEs rfl huc rfl hSB ?_
    refine R.len Try.underlying35 (hM.rowOf hc huc).row rfl ?_
    refine R.subN (m := ys[c].length) (n := 1) rfl rfl (by omega) (by omega) ?_
    obtain ⟨a63, c63, hv63, hc63, _⟩ := id (hM.rowOf hc huc)
    refine R.slc (l := 0) (r := ys[c].length - 1) Try.underlying35 t3 rfl hv63 rfl ⟨_, rfl⟩ (Nat.zero_le _) (Nat.le_trans (show ys[c].length - 1 ≤ ys[c].length by omega) hc63) ?_
    refine R.ix (m := c) Try.underlying22 t35 (by decide) hM.row rfl rfl hc ?_
    have hru : SInts _ (cut 1 uc 0 (ys[c].length - 1)) (ys[c].take (ys[c].length - 1)) := SInts.take (hM.rowOf hc huc) (show ys[c].length - 1 ≤ ys[c].length by omega)
    refine R.stE (j := c) (u := cut 1 uc 0 (ys[c].length - 1)) t35 hM.outer rfl rfl hru.one hc (fun _ x hx h => h.2 rfl hx) ?_
    intro w85 hU85 hs85 hO85
    have hR85 := hru.upS hU85 hM.outer (by decide)
    replace hB900 := hB900.upS hU85 hM.outer (by decide)
    replace hB2 := hB2.upS hU85 hM.outer (by decide)
    replace hst := hst.upS hU85 hM.outer (by decide)
    replace hrk := hrk.upS hU85 hM.outer
    have hsM := Nat.le_trans hJ.ext.size hE.size
    replace hE := hE.trans hU85 (fun _ _ h => .inr (.inl h))
    replace hM := MS.set hM huc (hU85.mono (fun _ _ h => .inr h)) hO85 hR85 (fun b e => .inl (vblk_cut e)) hsM
    clear hru hO85 hR85
    have hsu := sub_set (N := w.heap.size) (sub_refl (us := us)) huc (fun x e => .inl (vblk_cut (l := 0) (r := ys[c].length - 1) (k := 1) e))
    obtain ⟨zs, hzs⟩ : ∃ zs, zs = ys.set c (ys[c].take (ys[c].length - 1)) := ⟨_, rfl⟩
    rw [← hzs] at hM
    simp only [← hzs] at hxs ha1 hea
    obtain ⟨ua, hua, _⟩ := hM.get a ha1
    have hza6 : zs[a].length ≤ 6 := by rw [hea]; exact hx _ (List.getElem_mem ha)
    refine R.nil ?_
    refine E.regionW (fun c x => x < w85.heap.size ∧ (c = false → vblk ua ≠ some x ∧ vblk vs ≠ some x)) [78]  mixed rfl (by kernel_rfl) ?_
    intro w5 hx5 hh5
    replace hM := hM.ext hx5
    replace hst := hst.ext hx5
    replace hrk := hrk.ext hx5
    replace hB900 := hB900.ext hx5
    replace hB2 := hB2.ext hx5
    replace hE := hE.ext hx5
    have hEs : Ext w5 w5 := Upd.refl _
    have hS0 := hx5.size
    have hSB : ∀ b, b < w5.heap.size → b < w85.heap.size ∧ (true = false → (fun x => vblk ua ≠ some x ∧ vblk vs ≠ some x) b) := fun b hb => ⟨by rw [hh5] at hb; exact hb, nofun⟩
    have hSA : ∀ b, b < w5.heap.size → (fun x => vblk ua ≠ some x ∧ vblk vs ≠ some x) b → b < w85.heap.size ∧ (false = false → (fun x => vblk ua ≠ some x ∧ vblk vs ≠ some x) b) := fun b hb h => ⟨by rw [hh5] at hb; exact hb, fun _ => h⟩
    have hMs := hM
    have hsts := hst
    have hrks := hrk
    have hB900s := hB900
    have hB2s := hB2
    refine R.move ?_
    refine R.nilCheck rfl ?_
    refine R.fld fa108_0 rfl ?_
    refine R.loadB t22 hB900 rfl rfl rfl (hSA b900 hB900s.lt (⟨hB900.ne_vblk (hM.rowOf ha1 hua) (by decide), hB900.ne_vblk hM.outer (by decide)⟩)) ?_
    refine R.fld fa68_1 rfl ?_
    refine R.loadB t3 hB2 rfl rfl rfl (hSA b2 hB2s.lt (⟨hB2.ne_vblk (hM.rowOf ha1 hua) (by decide), hB2.ne_vblk hM.outer (by decide)⟩)) ?_
    refine R.move ?_
    refine R.nilCheck rfl ?_
    refine R.fld fa108_0 rfl ?_
    refine R.loadB t22 hB900 rfl rfl rfl (hSA b900 hB900s.lt (⟨hB900.ne_vblk (hM.rowOf ha1 hua) (by decide), hB900.ne_vblk hM.outer (by decide)⟩)) ?_
    refine R.fld fa68_1 rfl ?_
    refine R.loadB t3 hB2 rfl rfl rfl (hSA b2 hB2s.lt (⟨hB2.ne_vblk (hM.rowOf ha1 hua) (by decide), hB2.ne_vblk hM.outer (by decide)⟩)) ?_
    refine R.ix (m := a) Try.underlying22 t35 (by decide) hMs.row rfl rfl ha1 ?_
    refine R.ldE (j := a) t35 hMs.row hEs rfl hua rfl hSB ?_
    refine R.fld fa68_0 rfl ?_
    refine R.loadB t3 hB2 rfl rfl rfl (hSA b2 hB2s.lt (⟨hB2.ne_vblk (hM.rowOf ha1 hua) (by decide), hB2.ne_vblk hM.outer (by decide)⟩)) ?_
    refine R.buildSlice [.int .i64 (b)] Try.underlying35 t3 rfl rfl (by simp [Value.cells]) (by simp) (fun _ _ _ hb => Nat.lt_of_lt_of_le hb.1 (Nat.le_trans hS0 hEs.size)) ?_
    intro b81 w6 hb81 hx6 hB81 hS81
    replace hb81 := Nat.le_trans hE.size hb81
    replace hM := hM.ext hx6
    replace hst := hst.ext hx6
    replace hrk := hrk.ext hx6
    replace hB900 := hB900.ext hx6
    replace hB2 := hB2.ext hx6
    replace hE := hE.ext hx6
    replace hEs := hEs.ext hx6
    have hru : SInts _ ua zs[a] := hM.rowOf ha1 hua
    have hMW := hM
    refine R.append (m := 1) Try.underlying35 Try.underlying35 t3 (by decide) rfl hru hS81.row (by simp [cellsOf, Value.cells, Value.oneCell']) rfl rfl (by omega) (by omega) (fun _ b hb => ⟨Nat.lt_of_lt_of_le hb.1 (Nat.le_trans hS0 hEs.size), (hb.2 rfl).1⟩) ?_
    intro v82 w82 hU82 hS82 hd82
    have hO := hM.outer.upS hU82 hru (by decide)
    replace hB900 := hB900.upS hU82 hru (by decide)
    replace hB2 := hB2.upS hU82 hru (by decide)
    replace hst := hst.upS hU82 hru (by decide)
    replace hrk := hrk.upS hU82 hru
    have hjb82 : ∀ x, vblk v82 = some x → vblk ua = some x ∨ w.heap.size ≤ x := fun x e => by
      have hsz := hE.size
      rcases hd82 with ⟨h1, _⟩ | ⟨b', h1, h2, _⟩
      · exact .inl (h1 ▸ e)
      · rw [h1] at e; simp at e; subst e; exact .inr (Nat.le_trans hsz h2)
    have hsM := Nat.le_trans hJ.ext.size hE.size
    replace hE := hE.trans hU82 (fun x hx h => (hsu x ⟨ua, List.mem_of_getElem? hua, h⟩).elim (fun q => .inr (.inr (.inl q))) (fun q => absurd hx (Nat.not_lt.2 q)))
    have hR82 : SInts _ v82 (zs[a] ++ [(b)]) := SInts.app (ys := [(b)]) (m := 1) (by simpa [cellsOf, Value.cells, ints] using hS82) rfl
    clear hS81 hS82 hM
    refine R.ix (m := a) Try.underlying22 t35 (by decide) hO.row rfl rfl ha1 ?_
    refine R.stE (j := a) (u := v82) t35 hO rfl rfl hR82.one ha1 (fun _ x hx h => (h.2 rfl).2 hx) ?_
    intro w84 hU84 hs84 hO84
    have hR84 := hR82.upS hU84 hO (by decide)
    replace hB900 := hB900.upS hU84 hO (by decide)
    replace hB2 := hB2.upS hU84 hO (by decide)
    replace hst := hst.upS hU84 hO (by decide)
    replace hrk := hrk.upS hU84 hO
    replace hE := hE.trans hU84 (fun _ _ h => .inr (.inl h))
    have hM := MS.set hMW hua ((hU82.mono (fun _ _ h => .inl h)).trans hU84 (fun _ _ h => .inr h)) hO84 hR84 (fun b e => by
      rcases hd82 with ⟨h1, _⟩ | ⟨b', h1, h2, _⟩
      · exact .inl (h1 ▸ e)
      · rw [h1] at e; simp at e; subst e; exact .inr h2) hsM
    clear hMW hO hR82 hd82 hru hO84 hR84
    refine R.nil ?_
    exact end0 rfl ⟨_, rfl, hE, _, _, by have hM2 := hM; rw [hxs] at hM2; exact ⟨hB900, hM2, hJ.ordI, hrk, hst, fun x e => hJ.ft x (vblk_cut e), hJ.fb, hJ.fm, hJ.ext2 hE⟩, sub_set hsu hua hjb82, fun x e => .inl (vblk_cut e)⟩
end Go.Proofs.Ytfdmndkoiheebaa
