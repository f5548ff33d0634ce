import Derived.Test.YtfdmndkoiheebaaZ16J4
namespace Go.Proofs.Ytfdmndkoiheebaa
open Go Go.RowKit
theorem R.minN {P : Program} {ops : Array Oper} {S : Bool → Nat → Prop} {dr : Bool} {B : List Nat} {F : Env → World → Prop} {rest : List Oper} {e : Env} {w : World} {d : Tmp} {ty : TypeId} {pos : String} {aft : Array Edge} {x y : Operand} {ats : Array TypeId} {m n : Nat} (hx : ev e x = .int .i64 (m : Nat)) (hy : ev e y = .int .i64 (n : Nat))
    (h : wpR P ops S dr (kind B) F rest (upd e d (.int .i64 ((min m n : Nat) : Int))) w) : wpR P ops S dr (kind B) F (⟨some d, .call { callee := .builtin .min, args := #[x, y], argTypes := ats }, ty, pos, aft, none⟩ :: rest) e w := by
  refine R.quiet (.int .i64 ((min m n : Nat) : Int)) rfl (fun w' _ => ?_) h
  simp [execOp, resolve, invoke, builtin, hx, hy, run_min_int2]
  split <;> omega
namespace R
variable {P : Program} {ops : Array Oper} {S : Bool → Nat → Prop} {dr : Bool} {B : List Nat} {F : Env → World → Prop} {rest : List Oper} {e : Env} {w : World}
variable {d : Tmp} {od : Option Tmp} {ty : TypeId} {pos : String} {aft : Array Edge}
theorem makeF1 {fn : Fn} {x : Operand} {u : Value} (hc : ev e x = u)
    (h : wpR P ops S dr (kind B) F rest (upd e d (.func fn #[] #[u])) w) : wpR P ops S dr (kind B) F (⟨some d, .makeFunc fn #[] #[x], ty, pos, aft, none⟩ :: rest) e w := makeFunc (f := #[]) (c := #[u]) (by simp) (by simp [hc]) h
theorem makeF2 {fn : Fn} {x y : Operand} {u v : Value} (hc : ev e x = u) (hd : ev e y = v)
    (h : wpR P ops S dr (kind B) F rest (upd e d (.func fn #[] #[u, v])) w) : wpR P ops S dr (kind B) F (⟨some d, .makeFunc fn #[] #[x, y], ty, pos, aft, none⟩ :: rest) e w := makeFunc (f := #[]) (c := #[u, v]) (by simp) (by simp [hc, hd]) h
theorem callV1 {f : FuncId} {x x1 : Operand} {v1 : Value} {cap : Array Value} {ats : Array TypeId} {Φ : Value → World → Prop} (hent : Entered P f) (hx : ev e x = .func (.func f) #[] cap) (h1 : ev e x1 = v1) (hc : Calls P f (#[v1] ++ cap) w (Ret Φ))
    (h : ∀ v w', Φ v w' → (dr = true → AgreeOn (S false) w w') ∧ wpR P ops S dr (kind B) F rest (updo e od v) w') :
    wpR P ops S dr (kind B) F (⟨od, .call { callee := .value x, args := #[x1], argTypes := ats }, ty, pos, aft, none⟩ :: rest) e w := callV hent hx (by simp [h1]) hc h
theorem callY2 {l : Nat} {x x1 x2 : Operand} {v1 v2 : Value} {ats : Array TypeId} {Φ : Value → World → Prop} (hx : ev e x = .func (.yield l) #[] #[]) (h1 : ev e x1 = v1) (h2 : ev e x2 = v2) (hc : Yields P l #[v1, v2] w Φ)
    (h : ∀ v w', Φ v w' → (dr = true → AgreeOn (S false) w w') ∧ wpR P ops S dr (kind B) F rest (updo e od v) w') :
    wpR P ops S dr (kind B) F (⟨od, .call { callee := .value x, args := #[x1, x2], argTypes := ats }, ty, pos, aft, none⟩ :: rest) e w := callY hx (by simp [h1, h2]) hc h
end R
theorem retU {P : Program} {fn : Func} {R : Ending → World → Prop} {e : Env} {w : World} (hr : fn.results = #[]) (h : R (.returned (.tuple #[])) w) : bodyE P fn R .ret e w :=
  ⟨_, fun tmps _ => by rw [results_none hr], h⟩
def whereL (xss : List (List Int)) (b : Int) : Int := match findL xss b with
  | some p => (p.1 : Nat)
  | none => -1
theorem whereL_hit {xss : List (List Int)} {b : Int} {i : Nat} (hi : i < xss.length) (hn : ∀ xs ∈ xss.take i, b ∉ xs) (hb : b ∈ xss[i]) : whereL xss b = (i : Nat) := by simp only [whereL, findL_hit hi hn hb]
theorem whereL_miss {xss : List (List Int)} {b : Int} (hn : ∀ xs ∈ xss, b ∉ xs) : whereL xss b = -1 := by simp only [whereL, findL_miss hn]
theorem indexL_ge {xs : List Int} {b : Int} : decide (indexL xs b ≥ 0) = decide (b ∈ xs) := by
  unfold indexL
  by_cases h : b ∈ xs
  · simp [h]
  · simp [h]
theorem sContains (w : World) {v : Value} {xs : List Int} {b : Int} (h : Ints w v xs) (hl : xs.length < 1000000000) :
    Calls Try.prog 94 #[v, .int .i64 b] w (Ret fun r w' => Ext w w' ∧ r = .bool (decide (b ∈ xs))) := by
  refine calls_E (args := [v, .int .i64 b]) 9 Try.func94 rfl rfl (by simp) ?_
  have hE : Ext w w := Upd.refl w
  refine E.seq ?_
  refine E.regionP rfl ?_
  refine R.assign ?_
  refine R.nil ?_
  refine E.seq ?_
  refine E.regionP rfl ?_
  refine R.move ?_
  refine R.move ?_
  refine R.callE2 ent61 (sIndex _ (b := b) (h.ext hE) hl) rfl rfl nofun ?_
  rintro v7 w1 hx1 rfl
  replace hE := hE.ext hx1
  refine R.geq rfl rfl rfl ?_
  refine R.assign ?_
  refine R.nil ?_
  refine E.ret ?_
  exact ret1 (.bool (decide (b ∈ xs))) rfl (by rw [← indexL_ge]; rfl) ⟨_, rfl, hE, rfl⟩
theorem where1 (w : World) {v : Value} {xs : List Int} {b901 : Nat} {b : Int} (h : Ints w v xs) (hB901 : Blk w b901 3 #[.int .i64 b]) (hl : xs.length < 1000000000) :
    Calls Try.prog 93 #[v, .pointer (some ⟨b901, 0, none⟩)] w (Ret fun r w' => Ext w w' ∧ r = .bool (decide (b ∈ xs))) := by
  refine calls_E (args := [v, .pointer (some ⟨b901, 0, none⟩)]) 7 Try.func93 rfl rfl (by simp) ?_
  have hE : Ext w w := Upd.refl w
  refine E.seq ?_
  refine E.regionP rfl ?_
  refine R.assign ?_
  refine R.nil ?_
  refine E.seq ?_
  refine E.regionP rfl ?_
  refine R.move ?_
  refine R.loadB t3 hB901 rfl rfl rfl trivial ?_
  refine R.callE2 ent94 (sContains _ (b := b) (h.ext hE) hl) rfl rfl nofun ?_
  rintro v6 w1 hx1 rfl
  replace hB901 := hB901.ext hx1
  replace hE := hE.ext hx1
  refine R.assign ?_
  refine R.nil ?_
  refine E.ret ?_
  exact ret1 (.bool (decide (b ∈ xs))) rfl rfl ⟨_, rfl, hE, rfl⟩
theorem indexFunc (w : World) {v : Value} {us : List Value} {xss : List (List Int)} {b901 : Nat} {b : Int} (hm : Mat w v us xss) (hB901 : Blk w b901 3 #[.int .i64 b]) (hl : xss.length < 1000000) (hx : ∀ xs ∈ xss, xs.length < 1000000) :
    Calls Try.prog 92 #[v, .func (.func 93) #[] #[.pointer (some ⟨b901, 0, none⟩)]] w (Ret fun r w' => Ext w w' ∧ r = .int .i64 (whereL xss b)) := by
  refine calls_E (args := [v, .func (.func 93) #[] #[.pointer (some ⟨b901, 0, none⟩)]]) 19 Try.func92 rfl rfl (by simp) ?_
  have hE : Ext w w := Upd.refl w
  refine E.seq ?_
  refine E.regionP rfl ?_
  refine R.assign ?_
  refine R.nil ?_
  refine E.seq ?_
  refine E.seq ?_
  refine E.regionP rfl ?_
  refine R.move ?_
  refine R.len Try.underlying22 hm.row rfl ?_
  refine R.move ?_
  refine R.nil ?_
  refine E.block ?_
  refine E.loop (fun n e wr => ∃ (i : Nat), n = xss.length - i ∧ i ≤ xss.length ∧ (∀ xs ∈ xss.take i, b ∉ xs) ∧ Ext w wr ∧ Blk wr b901 3 #[.int .i64 b] ∧ Has e [(0, v), (1, .func (.func 93) #[] #[.pointer (some ⟨b901, 0, none⟩)]), (6, v), (7, .int .i64 xss.length), (8, .int .i64 (i : Nat))]) (xss.length) ?_ ?_
  · exact ⟨0, rfl, Nat.zero_le _, by simp, hE, hB901, rfl, rfl, rfl, rfl, rfl, trivial⟩
  · rintro n e wr ⟨i, rfl, hi, hn, hE, hB901, hH⟩
    obtain ⟨e, rfl⟩ := hH.ex
    clear hH
    refine E.seq ?_
    refine E.regionP rfl ?_
    refine R.lss rfl rfl rfl ?_
    refine R.nil ?_
    refine E.seq ?_
    refine E.cond rfl (fun hc9 => ?_) (fun hc9 => ?_)
    · replace hc9 := dT hc9
      have hi1 : i < xss.length := by omega
      have hxi := hx _ (List.getElem_mem hi1)
      refine E.skip ?_
      refine E.seq ?_
      refine E.block ?_
      refine E.seq ?_
      refine E.regionP rfl ?_
      refine R.move ?_
      refine R.assign ?_
      refine R.nil ?_
      refine E.seq ?_
      refine E.regionP rfl ?_
      refine R.move ?_
      refine R.move ?_
      refine R.move ?_
      refine R.ix Try.underlying22 t35 (by decide) hm.row rfl rfl (by omega) ?_
      obtain ⟨u15, hu15, hr15⟩ := hm.get i (by omega)
      refine R.ld t35 (hm.row.ext hE) rfl hu15 rfl (fun _ _ => trivial) ?_
      refine R.callV1 ent93 rfl rfl (where1 _ (hr15.ext hE) hB901 (by omega)) ?_
      rintro v16 w16 ⟨hx16, rfl⟩
      refine ⟨nofun, ?_⟩
      replace hB901 := hB901.ext hx16
      replace hE := hE.ext hx16
      refine R.nil ?_
      refine E.cond rfl (fun hc16 => ?_) (fun hc16 => ?_)
      · replace hc16 := dT hc16
        refine E.seq ?_
        refine E.regionP rfl ?_
        refine R.move ?_
        refine R.assign ?_
        refine R.nil ?_
        refine E.ret ?_
        exact ret1 (.int .i64 (i : Nat)) rfl rfl ⟨_, rfl, hE, by rw [whereL_hit hi1 hn hc16]⟩
      · replace hc16 := dF hc16
        refine E.skip ?_
        refine E.regionP rfl ?_
        refine R.addN (n := 1) rfl rfl (by omega) ?_
        refine R.move ?_
        refine R.nil ?_
        exact ⟨xss.length - (i + 1), by omega, i + 1, rfl, by omega, by rw [take_snoc (List.getElem?_eq_getElem hi1)]; intro xs hm; rcases List.mem_append.1 hm with hm | hm; (exact hn xs hm); (simp at hm; subst hm; exact hc16), hE, hB901, rfl, rfl, rfl, rfl, rfl, trivial⟩
    · replace hc9 := dF hc9
      refine E.exit ?_
      refine E.seq ?_
      refine E.regionP rfl ?_
      refine R.assign ?_
      refine R.nil ?_
      refine E.ret ?_
      obtain rfl : i = xss.length := by omega
      rw [List.take_length] at hn
      exact ret1 (.int .i64 (-1)) rfl rfl ⟨_, rfl, hE, by rw [whereL_miss hn]⟩
theorem where_ (w : World) {b900 H rm nx : Nat} {vs vo vt : Value} {us : List Value} {xss : List (List Int)} {ord : List Int} (hB900 : Blk w b900 108 #[vs, .int .i64 H, vo, .map (some rm), vt, .int .i64 nx]) (hm : Mat w vs us xss) (ho : Ints w vo ord) (hl : xss.length < 1000000) (hx : ∀ xs ∈ xss, xs.length < 1000000) (hnx : nx < ord.length) :
    Calls Try.prog 75 #[.pointer (some ⟨b900, 0, none⟩)] w (Ret fun r w' => Ext w w' ∧ r = .tuple #[.int .i64 (whereL xss ord[nx]), .bool (decide (topL xss (whereL xss ord[nx]) = ord[nx]))]) := by
  refine calls_E (args := [.pointer (some ⟨b900, 0, none⟩)]) 28 Try.func75 rfl rfl (by simp) ?_
  have hE : Ext w w := Upd.refl w
  refine E.seq ?_
  refine E.regionP rfl ?_
  refine R.assign ?_
  refine R.assign ?_
  refine R.nil ?_
  refine E.seq ?_
  have hW0 := hE.size
  refine E.regionF (fun c x => x < w.heap.size ∧ (c = false → True)) [] [] mixed rfl (by kernel_rfl) (fun _ _ h => h.1) ?_
  intro w1 hx1 hh1
  replace hB900 := hB900.ext hx1
  replace hE := hE.ext hx1
  have hEs : Ext w1 w1 := Upd.refl _
  have hS0 := hx1.size
  have hSB : ∀ b, b < w1.heap.size → b < w.heap.size ∧ (true = false → (fun x => True) b) := fun b hb => ⟨by rw [hh1] at hb; exact hb, nofun⟩
  have hSA : ∀ b, b < w1.heap.size → (fun x => True) b → b < w.heap.size ∧ (false = false → (fun x => True) b) := fun b hb h => ⟨by rw [hh1] at hb; exact hb, fun _ => h⟩
  have hSO : ∀ b, b < w.heap.size → b < w.heap.size ∧ (false = false → (fun x => True) b) := fun b hb => hSA b (Nat.lt_of_lt_of_le hb hE.size) (trivial)
  have hB900s := hB900
  refine G.q rfl (Nat.le_of_ble_eq_true rfl) ?_
  refine R.move ?_
  refine R.nil ?_
  refine G.q rfl (Nat.le_of_ble_eq_true rfl) ?_
  refine R.nilCheck rfl ?_
  refine R.nil ?_
  refine G.q rfl (Nat.le_of_ble_eq_true rfl) ?_
  refine R.fld fa108_2 rfl ?_
  refine R.nil ?_
  refine G.q rfl (Nat.le_of_ble_eq_true rfl) ?_
  refine R.loadB t35 hB900 rfl rfl rfl (hSA b900 hB900s.lt (trivial)) ?_
  refine R.nil ?_
  refine G.q rfl (Nat.le_of_ble_eq_true rfl) ?_
  refine R.move ?_
  refine R.nil ?_
  refine G.q rfl (Nat.le_of_ble_eq_true rfl) ?_
  refine R.nilCheck rfl ?_
  refine R.nil ?_
  refine G.q rfl (Nat.le_of_ble_eq_true rfl) ?_
  refine R.fld fa108_5 rfl ?_
  refine R.nil ?_
  refine G.q rfl (Nat.le_of_ble_eq_true rfl) ?_
  refine R.loadB t3 hB900 rfl rfl rfl (hSA b900 hB900s.lt (trivial)) ?_
  refine R.nil ?_
  refine G.q rfl (Nat.le_of_ble_eq_true rfl) ?_
  refine R.ix (m := nx) Try.underlying35 t3 (by decide) ho rfl rfl hnx ?_
  refine R.nil ?_
  refine G.q rfl (Nat.le_of_ble_eq_true rfl) ?_
  refine R.ldE (j := nx) t3 ho hE rfl (int_at hnx) rfl hSO ?_
  refine R.nil ?_
  refine G.alloc t3 ?_
  intro w2 b4 K2 hx2 hb4 hn4 hK2 hk4 hB4
  have hn04 := hb4
  replace hb4 := Nat.le_trans hW0 hb4
  replace hB900 := hB900.ext hx2
  replace hE := hE.ext hx2
  replace hEs := hEs.ext hx2
  replace hB4 : Blk _ b4 3 #[.int .i64 0] := hB4
  refine G.l rfl rfl (.inr rfl) (Nat.le_of_ble_eq_true rfl) ?_
  intro w3 hx3
  replace hB900 := hB900.ext hx3
  replace hB4 := hB4.ext hx3
  replace hE := hE.ext hx3
  replace hEs := hEs.ext hx3
  refine R.store t3 hB4 rfl rfl (rfl) (by simp) (fun _ h => G.S1_new (fun _ _ h => h.1) hn04 hk4 h) ?_
  intro w4 hU4 hs4 hN4
  replace hEs := hEs.trans hU4 (fun c hc h => by have h1 : c = b4 := h; rw [hh1] at hc; omega)
  replace hB900 := hB900.upT hU4 hB4 (by decide)
  replace hE := hE.own hU4 hb4
  replace hB4 : Blk _ b4 3 #[.int .i64 ord[nx]] := hN4
  clear hN4
  refine R.nil ⟨hU4.size, ?_⟩
  intro K3 hK3 hN3
  replace hk4 := hK3 _ hk4
  refine G.nil ?_
  refine E.seq ?_
  refine E.regionP rfl ?_
  refine R.move ?_
  refine R.nilCheck rfl ?_
  refine R.fld fa108_0 rfl ?_
  refine R.loadB t22 hB900 rfl rfl rfl trivial ?_
  refine R.makeF1 rfl ?_
  refine R.callE2 ent92 (indexFunc _ (hm.ext hE) hB4 hl hx) rfl rfl nofun ?_
  rintro v21 w5 hx5 rfl
  replace hB900 := hB900.ext hx5
  replace hB4 := hB4.ext hx5
  replace hE := hE.ext hx5
  refine R.assign ?_
  refine R.nil ?_
  refine E.seq ?_
  refine E.regionW (fun _ b => b < w5.heap.size) [] mixed rfl (by kernel_rfl) ?_
  intro w6 hx6 hh6
  replace hB900 := hB900.ext hx6
  replace hB4 := hB4.ext hx6
  replace hE := hE.ext hx6
  have hEs : Ext w6 w6 := Upd.refl _
  have hS0 := hx6.size
  have hSs : ∀ b, b < w6.heap.size → b < w5.heap.size := fun b hb => by rw [hh6] at hb; exact hb
  have hSa : ∀ b, b < w.heap.size → b < w5.heap.size := fun b hb => by have := hE.size; rw [hh6] at this; omega
  have hB900s := hB900
  have hB4s := hB4
  refine R.move ?_
  refine R.move ?_
  refine R.move ?_
  refine R.callE2 ent79 (top_ _ hB900 (hm.ext hE) hx) rfl rfl (fun _ _ hb => Nat.lt_of_lt_of_le hb (Nat.le_trans hS0 hEs.size)) ?_
  rintro v25 w7 hx7 rfl
  replace hB900 := hB900.ext hx7
  replace hB4 := hB4.ext hx7
  replace hE := hE.ext hx7
  replace hEs := hEs.ext hx7
  refine R.loadBE t3 hB4s hEs rfl rfl rfl hSs ?_
  refine R.eql rfl rfl rfl ?_
  refine R.assign ?_
  refine R.assign ?_
  refine R.nil ?_
  refine E.ret ?_
  exact ret2 (.int .i64 (whereL xss ord[nx])) (.bool (decide (topL xss (whereL xss ord[nx]) = ord[nx]))) rfl rfl rfl ⟨_, rfl, hE, rfl⟩
end Go.Proofs.Ytfdmndkoiheebaa
