import Derived.Test.YtlplogplicgfiaaProg
import Derived.Test.YtlplogplicgfiaaZ4Ops4
namespace Go.Proofs.Ytlplogplicgfiaa
open Go Go.RowKit
theorem mixed : Try.prog.follows .mixedOrders = true := by kernel_rfl
def Has (e : Env) : List (Nat × Value) → Prop
  | [] => True
  | (t, v) :: l => e t = v ∧ Has e l
def mk (e : Env) : List (Nat × Value) → Env
  | [] => e
  | (t, v) :: l => upd (mk e l) t v
theorem upd_self (e : Env) (t : Nat) : upd e t (e t) = e := by
  obtain ⟨f, ms⟩ := e; simp only [upd, Env.mk.injEq, and_true]
  funext s; split <;> simp_all
theorem Has.mk : ∀ {l : List (Nat × Value)} {e : Env}, Has e l → e = mk e l
  | [], _, _ => rfl
  | (t, v) :: l, e, ⟨h1, h2⟩ => by
    have := Has.mk h2; show e = upd (Ytlplogplicgfiaa.mk e l) t v; rw [← this, ← h1, upd_self]
theorem Has.ex {l : List (Nat × Value)} {e : Env} (h : Has e l) : ∃ e0, e = Ytlplogplicgfiaa.mk e0 l := ⟨e, h.mk⟩
theorem ret1 {P : Program} {fn : Func} {R : Ending → World → Prop} {e : Env} {w : World} {t : Tmp} (v : Value) (hr : fn.results = #[.tmp t]) (hv : e t = v) (h : R (.returned v) w) : bodyE P fn R .ret e w :=
  ⟨v, fun tmps ht => by rw [results_tmp hr, ht, hv], h⟩
theorem ret2 {P : Program} {fn : Func} {R : Ending → World → Prop} {e : Env} {w : World} {t u : Tmp} (v1 v2 : Value) (hr : fn.results = #[.tmp t, .tmp u]) (h1 : e t = v1) (h2 : e u = v2) (h : R (.returned (.tuple #[v1, v2])) w) : bodyE P fn R .ret e w :=
  ⟨_, fun tmps ht => by rw [results_tmp2 hr, ht, ht, h1, h2], h⟩
theorem end0 {P : Program} {fn : Func} {R : Ending → World → Prop} {e : Env} {w : World} (hr : fn.results = #[]) (h : R (.returned (.tuple #[])) w) : bodyE P fn R .normal e w :=
  ⟨_, fun tmps _ => by rw [results_none hr], h⟩
theorem run_loadA {P : Program} {w : World} {t : TypeId} {k by_ b : Nat} {z : Value} {tb : TypeId} {cs : Array Value} (hk : Ty P t k by_ true z) (hb : Blk w b tb cs) (hi : cs.size = k) : (loadVar t ⟨b, 0, none⟩).run P w = .ok (.agg cs) w := by
  have hl : (loadCells ⟨b, 0, none⟩ cs.toList.length).run P w = .ok cs.toList.toArray w := run_loadCells_list (P := P) (w := w) ⟨b, 0, none⟩ cs.toList (fun j v hj => by
    rw [add_none, hb.cell]; simpa using hj)
  simp only [Array.length_toList, Array.toArray_toList, hi] at hl; simp [loadVar, hk.isAgg, hk.sizeOf, hl]
theorem retA {P : Program} {fn : Func} {R : Ending → World → Prop} {e : Env} {w : World} {t : Tmp} {T : TypeId} {k by_ b : Nat} {z : Value} {cs : Array Value} {tb : TypeId} (hk : Ty P T k by_ true z) (hb : Blk w b tb cs) (hi : cs.size = k) (hr : fn.results = #[.cell t T]) (hv : e t = .pointer (some ⟨b, 0, none⟩)) (h : R (.returned (.agg cs)) w) : bodyE P fn R .ret e w :=
  ⟨_, fun tmps ht => by
    simp only [Array.getD_eq_getD_getElem?] at ht
    simp [results, hr, ht, hv, asAddr, run_loadA hk hb hi], h⟩
theorem retA1 {P : Program} {fn : Func} {R : Ending → World → Prop} {e : Env} {w : World} {t u : Tmp} {T : TypeId} {k by_ b : Nat} {z : Value} {cs : Array Value} (v2 : Value) {tb : TypeId} (hk : Ty P T k by_ true z) (hb : Blk w b tb cs) (hi : cs.size = k) (hr : fn.results = #[.cell t T, .tmp u]) (hv : e t = .pointer (some ⟨b, 0, none⟩)) (h2 : e u = v2)
    (h : R (.returned (.tuple #[.agg cs, v2])) w) : bodyE P fn R .ret e w :=
  ⟨_, fun tmps ht => by
    simp only [Array.getD_eq_getD_getElem?] at ht
    simp [results, hr, ht, hv, h2, asAddr, run_loadA hk hb hi], h⟩
theorem retA2 {P : Program} {fn : Func} {R : Ending → World → Prop} {e : Env} {w : World} {t u s : Tmp} {T : TypeId} {k by_ b : Nat} {z : Value} {cs : Array Value} (v2 v3 : Value) {tb : TypeId} (hk : Ty P T k by_ true z) (hb : Blk w b tb cs) (hi : cs.size = k) (hr : fn.results = #[.cell t T, .tmp u, .tmp s]) (hv : e t = .pointer (some ⟨b, 0, none⟩)) (h2 : e u = v2) (h3 : e s = v3)
    (h : R (.returned (.tuple #[.agg cs, v2, v3])) w) : bodyE P fn R .ret e w :=
  ⟨_, fun tmps ht => by
    simp only [Array.getD_eq_getD_getElem?] at ht
    simp [results, hr, ht, hv, h2, h3, asAddr, run_loadA hk hb hi], h⟩
theorem t3 : Ty Try.prog 3 1 8 false (.int .i64 0) := ⟨by kernel_rfl, _, Try.underlying3, rfl⟩
theorem t4 : Ty Try.prog 4 1 1 false (.bool false) := ⟨by kernel_rfl, _, Try.underlying4, rfl⟩
theorem t5 : Ty Try.prog 5 1 1 false (.int .u8 0) := ⟨by kernel_rfl, _, Try.underlying5, rfl⟩
theorem t22 : Ty Try.prog 22 1 24 false (.slice none 0 0) := ⟨by kernel_rfl, _, Try.underlying22, rfl⟩
theorem t23 : Ty Try.prog 23 1 24 false (.slice none 0 0) := ⟨by kernel_rfl, _, Try.underlying23, rfl⟩
theorem t25 : Ty Try.prog 25 4 64 true (.agg #[.slice none 0 0, .slice none 0 0, .int .i64 0, .bool false]) := ⟨by kernel_rfl, _, Try.underlying25, rfl⟩
theorem t26 : Ty Try.prog 26 64 64 true (.agg (Array.replicate 64 (.int .u8 0))) := ⟨by kernel_rfl, _, Try.underlying26, rfl⟩
theorem t27 : Ty Try.prog 27 64 64 true (.agg (Array.replicate 64 (.int .u8 0))) := ⟨by kernel_rfl, _, Try.underlying27, rfl⟩
theorem t29 : Ty Try.prog 29 1 24 false (.slice none 0 0) := ⟨by kernel_rfl, _, Try.underlying29, rfl⟩
theorem t31 : Ty Try.prog 31 4 64 true (.agg #[.slice none 0 0, .slice none 0 0, .int .i64 0, .bool false]) := ⟨by kernel_rfl, _, Try.underlying31, rfl⟩
theorem t32 : Ty Try.prog 32 1 8 false (.pointer none) := ⟨by kernel_rfl, _, Try.underlying32, rfl⟩
theorem t54 : Ty Try.prog 54 1 24 false (.slice none 0 0) := ⟨by kernel_rfl, _, Try.underlying54, rfl⟩
theorem t55 : Ty Try.prog 55 1 24 false (.slice none 0 0) := ⟨by kernel_rfl, _, Try.underlying55, rfl⟩
theorem t58 : Ty Try.prog 58 4 48 true (.agg #[.int .u8 0, .int .i64 0, .int .i64 0, .slice none 0 0]) := ⟨by kernel_rfl, _, Try.underlying58, rfl⟩
theorem t67 : Ty Try.prog 67 1 24 false (.slice none 0 0) := ⟨by kernel_rfl, _, Try.underlying67, rfl⟩
theorem t84 : Ty Try.prog 84 1 24 false (.slice none 0 0) := ⟨by kernel_rfl, _, Try.underlying84, rfl⟩
theorem t86 : Ty Try.prog 86 5 56 true (.agg #[.pointer none, .slice none 0 0, .int .i64 0, .int .i64 0, .bool false]) := ⟨by kernel_rfl, _, Try.underlying86, rfl⟩
theorem t93 : Ty Try.prog 93 10 144 true (.agg #[.slice none 0 0, .slice none 0 0, .int .i64 0, .bool false, .slice none 0 0, .slice none 0 0, .int .i64 0, .int .i64 0, .int .i64 0, .bool false]) := ⟨by kernel_rfl, _, Try.underlying93, rfl⟩
theorem t103 : Ty Try.prog 103 4 32 true (.agg #[.int .i64 0, .int .i64 0, .int .i64 0, .int .i64 0]) := ⟨by kernel_rfl, _, Try.underlying103, rfl⟩
theorem t106 : Ty Try.prog 106 6 64 true (.agg #[.int .i64 0, .int .i64 0, .int .i64 0, .int .i64 0, .int .i64 0, .slice none 0 0]) := ⟨by kernel_rfl, _, Try.underlying106, rfl⟩
theorem t115 : Ty Try.prog 115 1 24 false (.slice none 0 0) := ⟨by kernel_rfl, _, Try.underlying115, rfl⟩
theorem t120 : Ty Try.prog 120 6 64 true (.agg #[.int .i64 0, .int .i64 0, .int .i64 0, .int .i64 0, .int .i64 0, .slice none 0 0]) := ⟨by kernel_rfl, _, Try.underlying120, rfl⟩
theorem t133 : Ty Try.prog 133 2 16 true (.agg #[.int .i64 0, .int .i64 0]) := ⟨by kernel_rfl, _, Try.underlying133, rfl⟩
theorem fa25_0 : Fld Try.prog 25 0 0 := ⟨_, _, 1, Try.underlying25, rfl, rfl, by decide, by kernel_rfl⟩
theorem fa25_1 : Fld Try.prog 25 1 1 := ⟨_, _, 1, Try.underlying25, rfl, rfl, by decide, by kernel_rfl⟩
theorem fa25_2 : Fld Try.prog 25 2 2 := ⟨_, _, 1, Try.underlying25, rfl, rfl, by decide, by kernel_rfl⟩
theorem fa25_3 : Fld Try.prog 25 3 3 := ⟨_, _, 1, Try.underlying25, rfl, rfl, by decide, by kernel_rfl⟩
theorem fa31_0 : Fld Try.prog 31 0 0 := ⟨_, _, 1, Try.underlying31, rfl, rfl, by decide, by kernel_rfl⟩
theorem fa31_1 : Fld Try.prog 31 1 1 := ⟨_, _, 1, Try.underlying31, rfl, rfl, by decide, by kernel_rfl⟩
theorem fa31_2 : Fld Try.prog 31 2 2 := ⟨_, _, 1, Try.underlying31, rfl, rfl, by decide, by kernel_rfl⟩
theorem fa31_3 : Fld Try.prog 31 3 3 := ⟨_, _, 1, Try.underlying31, rfl, rfl, by decide, by kernel_rfl⟩
theorem fa58_0 : Fld Try.prog 58 0 0 := ⟨_, _, 1, Try.underlying58, rfl, rfl, by decide, by kernel_rfl⟩
theorem fa58_1 : Fld Try.prog 58 1 1 := ⟨_, _, 1, Try.underlying58, rfl, rfl, by decide, by kernel_rfl⟩
theorem fa58_2 : Fld Try.prog 58 2 2 := ⟨_, _, 1, Try.underlying58, rfl, rfl, by decide, by kernel_rfl⟩
theorem fa58_3 : Fld Try.prog 58 3 3 := ⟨_, _, 1, Try.underlying58, rfl, rfl, by decide, by kernel_rfl⟩
theorem fa86_0 : Fld Try.prog 86 0 0 := ⟨_, _, 1, Try.underlying86, rfl, rfl, by decide, by kernel_rfl⟩
theorem fa86_1 : Fld Try.prog 86 1 1 := ⟨_, _, 1, Try.underlying86, rfl, rfl, by decide, by kernel_rfl⟩
theorem fa86_2 : Fld Try.prog 86 2 2 := ⟨_, _, 1, Try.underlying86, rfl, rfl, by decide, by kernel_rfl⟩
theorem fa86_3 : Fld Try.prog 86 3 3 := ⟨_, _, 1, Try.underlying86, rfl, rfl, by decide, by kernel_rfl⟩
theorem fa86_4 : Fld Try.prog 86 4 4 := ⟨_, _, 1, Try.underlying86, rfl, rfl, by decide, by kernel_rfl⟩
theorem fa93_0 : Fld Try.prog 93 0 0 := ⟨_, _, 4, Try.underlying93, rfl, rfl, by decide, by kernel_rfl⟩
theorem fa93_1 : Fld Try.prog 93 1 4 := ⟨_, _, 1, Try.underlying93, rfl, rfl, by decide, by kernel_rfl⟩
theorem fa93_2 : Fld Try.prog 93 2 5 := ⟨_, _, 1, Try.underlying93, rfl, rfl, by decide, by kernel_rfl⟩
theorem fa93_3 : Fld Try.prog 93 3 6 := ⟨_, _, 1, Try.underlying93, rfl, rfl, by decide, by kernel_rfl⟩
theorem fa93_4 : Fld Try.prog 93 4 7 := ⟨_, _, 1, Try.underlying93, rfl, rfl, by decide, by kernel_rfl⟩
theorem fa93_5 : Fld Try.prog 93 5 8 := ⟨_, _, 1, Try.underlying93, rfl, rfl, by decide, by kernel_rfl⟩
theorem fa93_6 : Fld Try.prog 93 6 9 := ⟨_, _, 1, Try.underlying93, rfl, rfl, by decide, by kernel_rfl⟩
theorem fa103_0 : Fld Try.prog 103 0 0 := ⟨_, _, 1, Try.underlying103, rfl, rfl, by decide, by kernel_rfl⟩
theorem fa103_1 : Fld Try.prog 103 1 1 := ⟨_, _, 1, Try.underlying103, rfl, rfl, by decide, by kernel_rfl⟩
theorem fa103_2 : Fld Try.prog 103 2 2 := ⟨_, _, 1, Try.underlying103, rfl, rfl, by decide, by kernel_rfl⟩
theorem fa103_3 : Fld Try.prog 103 3 3 := ⟨_, _, 1, Try.underlying103, rfl, rfl, by decide, by kernel_rfl⟩
theorem fa106_0 : Fld Try.prog 106 0 0 := ⟨_, _, 4, Try.underlying106, rfl, rfl, by decide, by kernel_rfl⟩
theorem fa106_1 : Fld Try.prog 106 1 4 := ⟨_, _, 1, Try.underlying106, rfl, rfl, by decide, by kernel_rfl⟩
theorem fa106_2 : Fld Try.prog 106 2 5 := ⟨_, _, 1, Try.underlying106, rfl, rfl, by decide, by kernel_rfl⟩
theorem fa120_0 : Fld Try.prog 120 0 0 := ⟨_, _, 1, Try.underlying120, rfl, rfl, by decide, by kernel_rfl⟩
theorem fa120_1 : Fld Try.prog 120 1 1 := ⟨_, _, 1, Try.underlying120, rfl, rfl, by decide, by kernel_rfl⟩
theorem fa120_2 : Fld Try.prog 120 2 2 := ⟨_, _, 1, Try.underlying120, rfl, rfl, by decide, by kernel_rfl⟩
theorem fa120_3 : Fld Try.prog 120 3 3 := ⟨_, _, 1, Try.underlying120, rfl, rfl, by decide, by kernel_rfl⟩
theorem fa120_4 : Fld Try.prog 120 4 4 := ⟨_, _, 1, Try.underlying120, rfl, rfl, by decide, by kernel_rfl⟩
theorem fa120_5 : Fld Try.prog 120 5 5 := ⟨_, _, 1, Try.underlying120, rfl, rfl, by decide, by kernel_rfl⟩
theorem ent13 : Entered Try.prog 13 := entered Try.func13 (by decide) rfl
theorem ent15 : Entered Try.prog 15 := entered Try.func15 (by decide) rfl
theorem ent16 : Entered Try.prog 16 := entered Try.func16 (by decide) rfl
theorem ent17 : Entered Try.prog 17 := entered Try.func17 (by decide) rfl
theorem ent18 : Entered Try.prog 18 := entered Try.func18 (by decide) rfl
theorem ent19 : Entered Try.prog 19 := entered Try.func19 (by decide) rfl
theorem ent20 : Entered Try.prog 20 := entered Try.func20 (by decide) rfl
theorem ent21 : Entered Try.prog 21 := entered Try.func21 (by decide) rfl
theorem ent22 : Entered Try.prog 22 := entered Try.func22 (by decide) rfl
theorem ent23 : Entered Try.prog 23 := entered Try.func23 (by decide) rfl
theorem ent34 : Entered Try.prog 34 := entered Try.func34 (by decide) rfl
theorem ent35 : Entered Try.prog 35 := entered Try.func35 (by decide) rfl
theorem ent36 : Entered Try.prog 36 := entered Try.func36 (by decide) rfl
theorem ent37 : Entered Try.prog 37 := entered Try.func37 (by decide) rfl
theorem ent39 : Entered Try.prog 39 := entered Try.func39 (by decide) rfl
theorem ent40 : Entered Try.prog 40 := entered Try.func40 (by decide) rfl
theorem ent41 : Entered Try.prog 41 := entered Try.func41 (by decide) rfl
theorem ent42 : Entered Try.prog 42 := entered Try.func42 (by decide) rfl
theorem ent43 : Entered Try.prog 43 := entered Try.func43 (by decide) rfl
theorem ent44 : Entered Try.prog 44 := entered Try.func44 (by decide) rfl
theorem ent45 : Entered Try.prog 45 := entered Try.func45 (by decide) rfl
theorem ent46 : Entered Try.prog 46 := entered Try.func46 (by decide) rfl
theorem ent47 : Entered Try.prog 47 := entered Try.func47 (by decide) rfl
theorem ent48 : Entered Try.prog 48 := entered Try.func48 (by decide) rfl
theorem ent51 : Entered Try.prog 51 := entered Try.func51 (by decide) rfl
theorem ent52 : Entered Try.prog 52 := entered Try.func52 (by decide) rfl
theorem ent53 : Entered Try.prog 53 := entered Try.func53 (by decide) rfl
theorem ent54 : Entered Try.prog 54 := entered Try.func54 (by decide) rfl
theorem ent55 : Entered Try.prog 55 := entered Try.func55 (by decide) rfl
theorem ent56 : Entered Try.prog 56 := entered Try.func56 (by decide) rfl
theorem ent57 : Entered Try.prog 57 := entered Try.func57 (by decide) rfl
theorem ent58 : Entered Try.prog 58 := entered Try.func58 (by decide) rfl
theorem ent59 : Entered Try.prog 59 := entered Try.func59 (by decide) rfl
theorem ent60 : Entered Try.prog 60 := entered Try.func60 (by decide) rfl
theorem ent61 : Entered Try.prog 61 := entered Try.func61 (by decide) rfl
theorem ent62 : Entered Try.prog 62 := entered Try.func62 (by decide) rfl
theorem ent63 : Entered Try.prog 63 := entered Try.func63 (by decide) rfl
theorem ent64 : Entered Try.prog 64 := entered Try.func64 (by decide) rfl
theorem ent65 : Entered Try.prog 65 := entered Try.func65 (by decide) rfl
theorem ent66 : Entered Try.prog 66 := entered Try.func66 (by decide) rfl
theorem ent67 : Entered Try.prog 67 := entered Try.func67 (by decide) rfl
theorem ent68 : Entered Try.prog 68 := entered Try.func68 (by decide) rfl
theorem ent69 : Entered Try.prog 69 := entered Try.func69 (by decide) rfl
theorem ent70 : Entered Try.prog 70 := entered Try.func70 (by decide) rfl
theorem ent71 : Entered Try.prog 71 := entered Try.func71 (by decide) rfl
theorem ent72 : Entered Try.prog 72 := entered Try.func72 (by decide) rfl
theorem ent73 : Entered Try.prog 73 := entered Try.func73 (by decide) rfl
theorem ent74 : Entered Try.prog 74 := entered Try.func74 (by decide) rfl
theorem ent75 : Entered Try.prog 75 := entered Try.func75 (by decide) rfl
theorem ent76 : Entered Try.prog 76 := entered Try.func76 (by decide) rfl
theorem ent77 : Entered Try.prog 77 := entered Try.func77 (by decide) rfl
theorem ent78 : Entered Try.prog 78 := entered Try.func78 (by decide) rfl
theorem ent79 : Entered Try.prog 79 := entered Try.func79 (by decide) rfl
theorem ent80 : Entered Try.prog 80 := entered Try.func80 (by decide) rfl
end Go.Proofs.Ytlplogplicgfiaa
