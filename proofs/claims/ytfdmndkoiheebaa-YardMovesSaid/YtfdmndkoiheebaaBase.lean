/- Closed facts of this program: types, fields, functions with bodies; slots at a loop's head; results. -/
import Derived.Test.YtfdmndkoiheebaaProg
import Derived.Test.YtfdmndkoiheebaaOps4
namespace Go.Proofs.Ytfdmndkoiheebaa
open Go Go.RowKit

theorem mixed : Try.prog.follows .mixedOrders = true := by kernel_rfl
abbrev allB : Nat → Prop := fun _ => True

/-- Slots that hold values. -/
def Has (e : Env) : List (Nat × Value) → Prop
  | [] => True
  | (t, v) :: l => e t = v ∧ Has e l
def mk (e : Env) : List (Nat × Value) → Env
  | [] => e
  | (t, v) :: l => upd (mk e l) t v
theorem upd_self (e : Env) (t : Nat) : upd e t (e t) = e := by funext s; simp only [upd]; split <;> simp_all
theorem Has.mk : ∀ {l : List (Nat × Value)} {e : Env}, Has e l → e = mk e l
  | [], _, _ => rfl
  | (t, v) :: l, e, ⟨h1, h2⟩ => by
    have := Has.mk h2
    show e = upd (Ytfdmndkoiheebaa.mk e l) t v
    rw [← this, ← h1, upd_self]
theorem Has.ex {l : List (Nat × Value)} {e : Env} (h : Has e l) : ∃ e0, e = Ytfdmndkoiheebaa.mk e0 l := ⟨e, h.mk⟩

/-- Results in slots. -/
theorem ret1 {P : Program} {fn : Func} {R : Ending → World → Prop} {e : Env} {w : World} {t : Tmp} (v : Value) (hr : fn.results = #[.tmp t]) (hv : e t = v) (h : R (.returned v) w) : bodyE P fn R .ret e w :=
  ⟨v, fun tmps ht => by rw [results_tmp hr, ht, hv], h⟩
theorem ret2 {P : Program} {fn : Func} {R : Ending → World → Prop} {e : Env} {w : World} {t u : Tmp} (v1 v2 : Value) (hr : fn.results = #[.tmp t, .tmp u]) (h1 : e t = v1) (h2 : e u = v2) (h : R (.returned (.tuple #[v1, v2])) w) : bodyE P fn R .ret e w :=
  ⟨_, fun tmps ht => by rw [results_tmp2 hr, ht, ht, h1, h2], h⟩
theorem ret3 {P : Program} {fn : Func} {R : Ending → World → Prop} {e : Env} {w : World} {t u s : Tmp} (v1 v2 v3 : Value) (hr : fn.results = #[.tmp t, .tmp u, .tmp s]) (h1 : e t = v1) (h2 : e u = v2) (h3 : e s = v3) (h : R (.returned (.tuple #[v1, v2, v3])) w) : bodyE P fn R .ret e w :=
  ⟨_, fun tmps ht => by rw [results_tmp3 hr, ht, ht, ht, h1, h2, h3], h⟩
theorem end0 {P : Program} {fn : Func} {R : Ending → World → Prop} {e : Env} {w : World} (hr : fn.results = #[]) (h : R (.returned (.tuple #[])) w) : bodyE P fn R .normal e w :=
  ⟨_, fun tmps _ => by rw [results_none hr], h⟩
/-- A result that is a struct in its cells. -/
theorem run_loadA {P : Program} {w : World} {t : TypeId} {k by_ b : Nat} {z : Value} {tb : TypeId} {cs : Array Value} (hk : Ty P t k by_ true z) (hb : Blk w b tb cs) (hi : cs.size = k) : (loadVar t ⟨b, 0, none⟩).run P w = .ok (.agg cs) w := by
  have hl : (loadCells ⟨b, 0, none⟩ cs.toList.length).run P w = .ok cs.toList.toArray w := run_loadCells_list (P := P) (w := w) ⟨b, 0, none⟩ cs.toList (fun j v hj => by
    rw [add_none, hb.cell]; simpa using hj)
  simp only [Array.length_toList, Array.toArray_toList, hi] at hl
  simp [loadVar, hk.isAgg, hk.sizeOf, hl]
theorem retA {P : Program} {fn : Func} {R : Ending → World → Prop} {e : Env} {w : World} {t : Tmp} {T : TypeId} {k by_ b : Nat} {z : Value} {cs : Array Value} {tb : TypeId} (hk : Ty P T k by_ true z) (hb : Blk w b tb cs) (hi : cs.size = k) (hr : fn.results = #[.cell t T]) (hv : e t = .pointer (some ⟨b, 0, none⟩)) (h : R (.returned (.agg cs)) w) : bodyE P fn R .ret e w :=
  ⟨_, fun tmps ht => by
    simp only [Array.getD_eq_getD_getElem?] at ht
    simp [results, hr, ht, hv, asAddr, run_loadA hk hb hi], h⟩
theorem retA1 {P : Program} {fn : Func} {R : Ending → World → Prop} {e : Env} {w : World} {t u : Tmp} {T : TypeId} {k by_ b : Nat} {z : Value} {cs : Array Value} (v2 : Value) {tb : TypeId} (hk : Ty P T k by_ true z) (hb : Blk w b tb cs) (hi : cs.size = k) (hr : fn.results = #[.cell t T, .tmp u]) (hv : e t = .pointer (some ⟨b, 0, none⟩)) (h2 : e u = v2)
    (h : R (.returned (.tuple #[.agg cs, v2])) w) : bodyE P fn R .ret e w :=
  ⟨_, fun tmps ht => by
    simp only [Array.getD_eq_getD_getElem?] at ht
    simp [results, hr, ht, hv, h2, asAddr, run_loadA hk hb hi], h⟩
theorem retA2 {P : Program} {fn : Func} {R : Ending → World → Prop} {e : Env} {w : World} {t u s : Tmp} {T : TypeId} {k by_ b : Nat} {z : Value} {cs : Array Value} (v2 v3 : Value) {tb : TypeId} (hk : Ty P T k by_ true z) (hb : Blk w b tb cs) (hi : cs.size = k) (hr : fn.results = #[.cell t T, .tmp u, .tmp s]) (hv : e t = .pointer (some ⟨b, 0, none⟩)) (h2 : e u = v2) (h3 : e s = v3)
    (h : R (.returned (.tuple #[.agg cs, v2, v3])) w) : bodyE P fn R .ret e w :=
  ⟨_, fun tmps ht => by
    simp only [Array.getD_eq_getD_getElem?] at ht
    simp [results, hr, ht, hv, h2, h3, asAddr, run_loadA hk hb hi], h⟩

theorem ints_at {xs : List Int} {k : Nat} (h : k < xs.length) : (ints xs)[((k : Int)).toNat * 1]? = some (.int .i64 xs[k]) := by simp [h]
theorem ints_one {xs : List Int} : ∀ u ∈ ints xs, u.oneCell' = true := by
  intro u hu
  obtain ⟨_, _, rfl⟩ := List.mem_map.1 hu
  rfl

theorem t3 : Ty Try.prog 3 1 8 false (.int .i64 0) := ⟨by kernel_rfl, _, Try.underlying3, rfl⟩
theorem t4 : Ty Try.prog 4 1 1 false (.bool false) := ⟨by kernel_rfl, _, Try.underlying4, rfl⟩
theorem t5 : Ty Try.prog 5 1 1 false (.int .u8 0) := ⟨by kernel_rfl, _, Try.underlying5, rfl⟩
theorem t22 : Ty Try.prog 22 1 24 false (.slice none 0 0) := ⟨by kernel_rfl, _, Try.underlying22, rfl⟩
theorem t24 : Ty Try.prog 24 2 32 true (.agg #[.slice none 0 0, .int .i64 0]) := ⟨by kernel_rfl, _, Try.underlying24, rfl⟩
theorem t30 : Ty Try.prog 30 2 16 true (.agg #[.int .i64 0, .int .i64 0]) := ⟨by kernel_rfl, _, Try.underlying30, rfl⟩
theorem t33 : Ty Try.prog 33 1 24 false (.slice none 0 0) := ⟨by kernel_rfl, _, Try.underlying33, rfl⟩
theorem t35 : Ty Try.prog 35 1 24 false (.slice none 0 0) := ⟨by kernel_rfl, _, Try.underlying35, rfl⟩
theorem t38 : Ty Try.prog 38 1 8 false (.int .i64 0) := ⟨by kernel_rfl, _, Try.underlying38, rfl⟩
theorem t48 : Ty Try.prog 48 1 24 false (.slice none 0 0) := ⟨by kernel_rfl, _, Try.underlying48, rfl⟩
theorem t52 : Ty Try.prog 52 1 24 false (.slice none 0 0) := ⟨by kernel_rfl, _, Try.underlying52, rfl⟩
theorem t53 : Ty Try.prog 53 2 16 true (.agg #[.int .i64 0, .int .i64 0]) := ⟨by kernel_rfl, _, Try.underlying53, rfl⟩
theorem t54 : Ty Try.prog 54 2 32 true (.agg #[.slice none 0 0, .int .i64 0]) := ⟨by kernel_rfl, _, Try.underlying54, rfl⟩
theorem t62 : Ty Try.prog 62 1 24 false (.slice none 0 0) := ⟨by kernel_rfl, _, Try.underlying62, rfl⟩
theorem t68 : Ty Try.prog 68 3 24 true (.agg #[.int .i64 0, .int .i64 0, .int .i64 0]) := ⟨by kernel_rfl, _, Try.underlying68, rfl⟩
theorem t76 : Ty Try.prog 76 1 24 false (.slice none 0 0) := ⟨by kernel_rfl, _, Try.underlying76, rfl⟩
theorem t78 : Ty Try.prog 78 1 24 false (.slice none 0 0) := ⟨by kernel_rfl, _, Try.underlying78, rfl⟩
theorem fa24_0 : Fld Try.prog 24 0 0 := ⟨_, _, 1, Try.underlying24, rfl, rfl, by decide, by kernel_rfl⟩
theorem fa24_1 : Fld Try.prog 24 1 1 := ⟨_, _, 1, Try.underlying24, rfl, rfl, by decide, by kernel_rfl⟩
theorem fa54_0 : Fld Try.prog 54 0 0 := ⟨_, _, 1, Try.underlying54, rfl, rfl, by decide, by kernel_rfl⟩
theorem fa54_1 : Fld Try.prog 54 1 1 := ⟨_, _, 1, Try.underlying54, rfl, rfl, by decide, by kernel_rfl⟩
theorem fa30_0 : Fld Try.prog 30 0 0 := ⟨_, _, 1, Try.underlying30, rfl, rfl, by decide, by kernel_rfl⟩
theorem fa30_1 : Fld Try.prog 30 1 1 := ⟨_, _, 1, Try.underlying30, rfl, rfl, by decide, by kernel_rfl⟩
theorem fa53_0 : Fld Try.prog 53 0 0 := ⟨_, _, 1, Try.underlying53, rfl, rfl, by decide, by kernel_rfl⟩
theorem fa53_1 : Fld Try.prog 53 1 1 := ⟨_, _, 1, Try.underlying53, rfl, rfl, by decide, by kernel_rfl⟩
theorem fa68_0 : Fld Try.prog 68 0 0 := ⟨_, _, 1, Try.underlying68, rfl, rfl, by decide, by kernel_rfl⟩
theorem fa68_1 : Fld Try.prog 68 1 1 := ⟨_, _, 1, Try.underlying68, rfl, rfl, by decide, by kernel_rfl⟩
theorem fa68_2 : Fld Try.prog 68 2 2 := ⟨_, _, 1, Try.underlying68, rfl, rfl, by decide, by kernel_rfl⟩
theorem ent3 : Entered Try.prog 3 := entered Try.func3 (by decide) rfl
theorem ent4 : Entered Try.prog 4 := entered Try.func4 (by decide) rfl
theorem ent5 : Entered Try.prog 5 := entered Try.func5 (by decide) rfl
theorem ent6 : Entered Try.prog 6 := entered Try.func6 (by decide) rfl
theorem ent7 : Entered Try.prog 7 := entered Try.func7 (by decide) rfl
theorem ent8 : Entered Try.prog 8 := entered Try.func8 (by decide) rfl
theorem ent9 : Entered Try.prog 9 := entered Try.func9 (by decide) rfl
theorem ent10 : Entered Try.prog 10 := entered Try.func10 (by decide) rfl
theorem ent11 : Entered Try.prog 11 := entered Try.func11 (by decide) rfl
theorem ent12 : Entered Try.prog 12 := entered Try.func12 (by decide) rfl
theorem ent13 : Entered Try.prog 13 := entered Try.func13 (by decide) rfl
theorem ent14 : Entered Try.prog 14 := entered Try.func14 (by decide) rfl
theorem ent15 : Entered Try.prog 15 := entered Try.func15 (by decide) rfl
theorem ent16 : Entered Try.prog 16 := entered Try.func16 (by decide) rfl
theorem ent17 : Entered Try.prog 17 := entered Try.func17 (by decide) rfl
theorem ent18 : Entered Try.prog 18 := entered Try.func18 (by decide) rfl
theorem ent19 : Entered Try.prog 19 := entered Try.func19 (by decide) rfl
theorem ent20 : Entered Try.prog 20 := entered Try.func20 (by decide) rfl
theorem ent21 : Entered Try.prog 21 := entered Try.func21 (by decide) rfl
theorem ent22 : Entered Try.prog 22 := entered Try.func22 (by decide) rfl
theorem ent23 : Entered Try.prog 23 := entered Try.func23 (by decide) rfl
theorem ent24 : Entered Try.prog 24 := entered Try.func24 (by decide) rfl
theorem ent25 : Entered Try.prog 25 := entered Try.func25 (by decide) rfl
theorem ent26 : Entered Try.prog 26 := entered Try.func26 (by decide) rfl
theorem ent27 : Entered Try.prog 27 := entered Try.func27 (by decide) rfl
theorem ent28 : Entered Try.prog 28 := entered Try.func28 (by decide) rfl
theorem ent29 : Entered Try.prog 29 := entered Try.func29 (by decide) rfl
theorem ent30 : Entered Try.prog 30 := entered Try.func30 (by decide) rfl
theorem ent31 : Entered Try.prog 31 := entered Try.func31 (by decide) rfl
theorem ent32 : Entered Try.prog 32 := entered Try.func32 (by decide) rfl
theorem ent33 : Entered Try.prog 33 := entered Try.func33 (by decide) rfl
theorem ent34 : Entered Try.prog 34 := entered Try.func34 (by decide) rfl
theorem ent35 : Entered Try.prog 35 := entered Try.func35 (by decide) rfl
theorem ent36 : Entered Try.prog 36 := entered Try.func36 (by decide) rfl
theorem ent37 : Entered Try.prog 37 := entered Try.func37 (by decide) rfl
theorem ent38 : Entered Try.prog 38 := entered Try.func38 (by decide) rfl
theorem ent39 : Entered Try.prog 39 := entered Try.func39 (by decide) rfl
theorem ent40 : Entered Try.prog 40 := entered Try.func40 (by decide) rfl
theorem ent41 : Entered Try.prog 41 := entered Try.func41 (by decide) rfl
theorem ent42 : Entered Try.prog 42 := entered Try.func42 (by decide) rfl
theorem ent43 : Entered Try.prog 43 := entered Try.func43 (by decide) rfl
theorem ent44 : Entered Try.prog 44 := entered Try.func44 (by decide) rfl
theorem ent45 : Entered Try.prog 45 := entered Try.func45 (by decide) rfl
theorem ent46 : Entered Try.prog 46 := entered Try.func46 (by decide) rfl
theorem ent47 : Entered Try.prog 47 := entered Try.func47 (by decide) rfl
theorem ent48 : Entered Try.prog 48 := entered Try.func48 (by decide) rfl
theorem ent49 : Entered Try.prog 49 := entered Try.func49 (by decide) rfl
theorem ent50 : Entered Try.prog 50 := entered Try.func50 (by decide) rfl
theorem ent51 : Entered Try.prog 51 := entered Try.func51 (by decide) rfl
theorem ent52 : Entered Try.prog 52 := entered Try.func52 (by decide) rfl
theorem ent53 : Entered Try.prog 53 := entered Try.func53 (by decide) rfl
theorem ent54 : Entered Try.prog 54 := entered Try.func54 (by decide) rfl
theorem ent55 : Entered Try.prog 55 := entered Try.func55 (by decide) rfl
theorem ent56 : Entered Try.prog 56 := entered Try.func56 (by decide) rfl
theorem ent57 : Entered Try.prog 57 := entered Try.func57 (by decide) rfl
theorem ent58 : Entered Try.prog 58 := entered Try.func58 (by decide) rfl
theorem ent59 : Entered Try.prog 59 := entered Try.func59 (by decide) rfl
theorem ent60 : Entered Try.prog 60 := entered Try.func60 (by decide) rfl
theorem ent61 : Entered Try.prog 61 := entered Try.func61 (by decide) rfl
theorem ent62 : Entered Try.prog 62 := entered Try.func62 (by decide) rfl
theorem ent63 : Entered Try.prog 63 := entered Try.func63 (by decide) rfl
theorem ent64 : Entered Try.prog 64 := entered Try.func64 (by decide) rfl
theorem ent65 : Entered Try.prog 65 := entered Try.func65 (by decide) rfl
theorem ent66 : Entered Try.prog 66 := entered Try.func66 (by decide) rfl
theorem ent67 : Entered Try.prog 67 := entered Try.func67 (by decide) rfl
theorem ent68 : Entered Try.prog 68 := entered Try.func68 (by decide) rfl
theorem ent69 : Entered Try.prog 69 := entered Try.func69 (by decide) rfl
theorem ent70 : Entered Try.prog 70 := entered Try.func70 (by decide) rfl
theorem ent71 : Entered Try.prog 71 := entered Try.func71 (by decide) rfl
theorem ent72 : Entered Try.prog 72 := entered Try.func72 (by decide) rfl
theorem ent73 : Entered Try.prog 73 := entered Try.func73 (by decide) rfl
theorem ent74 : Entered Try.prog 74 := entered Try.func74 (by decide) rfl
theorem ent75 : Entered Try.prog 75 := entered Try.func75 (by decide) rfl
theorem ent76 : Entered Try.prog 76 := entered Try.func76 (by decide) rfl
theorem ent77 : Entered Try.prog 77 := entered Try.func77 (by decide) rfl
theorem ent78 : Entered Try.prog 78 := entered Try.func78 (by decide) rfl
theorem ent79 : Entered Try.prog 79 := entered Try.func79 (by decide) rfl
theorem ent80 : Entered Try.prog 80 := entered Try.func80 (by decide) rfl
theorem ent81 : Entered Try.prog 81 := entered Try.func81 (by decide) rfl
theorem ent82 : Entered Try.prog 82 := entered Try.func82 (by decide) rfl
theorem ent83 : Entered Try.prog 83 := entered Try.func83 (by decide) rfl
theorem ent84 : Entered Try.prog 84 := entered Try.func84 (by decide) rfl
theorem ent85 : Entered Try.prog 85 := entered Try.func85 (by decide) rfl
theorem ent86 : Entered Try.prog 86 := entered Try.func86 (by decide) rfl
theorem ent87 : Entered Try.prog 87 := entered Try.func87 (by decide) rfl
theorem ent88 : Entered Try.prog 88 := entered Try.func88 (by decide) rfl
theorem ent89 : Entered Try.prog 89 := entered Try.func89 (by decide) rfl
theorem ent90 : Entered Try.prog 90 := entered Try.func90 (by decide) rfl
theorem ent91 : Entered Try.prog 91 := entered Try.func91 (by decide) rfl
theorem ent92 : Entered Try.prog 92 := entered Try.func92 (by decide) rfl
theorem ent93 : Entered Try.prog 93 := entered Try.func93 (by decide) rfl
theorem ent94 : Entered Try.prog 94 := entered Try.func94 (by decide) rfl
theorem ent95 : Entered Try.prog 95 := entered Try.func95 (by decide) rfl
theorem ent96 : Entered Try.prog 96 := entered Try.func96 (by decide) rfl
theorem ent97 : Entered Try.prog 97 := entered Try.func97 (by decide) rfl
theorem ent98 : Entered Try.prog 98 := entered Try.func98 (by decide) rfl
theorem ent99 : Entered Try.prog 99 := entered Try.func99 (by decide) rfl
theorem ent100 : Entered Try.prog 100 := entered Try.func100 (by decide) rfl
theorem ent101 : Entered Try.prog 101 := entered Try.func101 (by decide) rfl
end Go.Proofs.Ytfdmndkoiheebaa
