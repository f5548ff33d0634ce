import Derived.Test.YtlplogplicgfiaaZ4JF
import Derived.Test.YtlplogplicgfiaaZ4Mem2
namespace Go.Proofs.Ytlplogplicgfiaa
open Go Go.RowKit
theorem R.callV1 {P : Program} {ops : Array Oper} {S : Bool → Nat → Prop} {dr : Bool} {B : List Nat} {F : Env → World → Prop} {rest : List Oper} {e : Env} {w : World} {od : Option Tmp} {ty : TypeId} {pos : String} {aft : Array Edge} {f : FuncId} {x x1 : Operand} {v1 : Value} {cap : Array Value} {ats : Array TypeId} {Φ : Value → World → Prop} (hent : Entered P f) (hx : ev e x = .func (.func f) #[] cap) (h1 : ev e x1 = v1) (hc : Calls P f (#[v1] ++ cap) w (Ret Φ))
    (h : ∀ v w', Φ v w' → (dr = true → AgreeOn (S false) w w') ∧ wpR P ops S dr (kind B) F rest (updo e od v) w') :
    wpR P ops S dr (kind B) F (⟨od, .call { callee := .value x, args := #[x1], argTypes := ats }, ty, pos, aft, none⟩ :: rest) e w := R.callV hent hx (by simp [h1]) hc h
theorem clone_ (w : World) {v : Value} {xs : List Nat} (h : U8s w v xs) (hl : xs.length < 1000000000) :
    Calls Try.prog 53 #[v] w (Ret fun r w' => Ext w w' ∧ SU8s w' r xs ∧ Fresh w r) := by
  refine calls_E (args := [v]) 8 Try.func53 rfl rfl (by simp) ?_; have hE : Ext w w := Upd.refl w; refine E.seq ?_; refine E.regionP rfl ?_; refine R.assign ?_; refine R.nil ?_; (iterate 2 refine E.seq ?_); refine E.regionP rfl ?_; refine R.move ?_; refine R.eqNil Try.underlying55 h rfl (fun q4 hq4 hn4 => ?_); refine R.nil ?_; refine E.cond rfl (fun hc4 => ?_) (fun hc4 => ?_)
  · refine E.seq ?_; refine E.regionP rfl ?_; refine R.assign ?_; refine R.nil ?_; refine E.ret ?_; refine ret1 (.slice none 0 0) rfl rfl ⟨_, rfl, hE, ?_, Fresh.nil _⟩; have : xs = [] := by simpa using (hq4 hc4).2
    subst this; exact Sl.nil _ _ _
  · refine E.skip ?_; refine E.seq ?_; refine E.regionP rfl ?_; refine R.buildSlice [] Try.underlying55 t5 rfl rfl (by simp) (by simp) nofun ?_; intro b5 w5 hb5 hx5 hB5 hS5; replace hE := hE.ext hx5; refine R.move ?_; refine R.append Try.underlying55 Try.underlying55 t5 (by decide) rfl hS5 (h.ext hE) u8s_one rfl rfl (by simp; omega) (by simp; omega) nofun ?_; intro v7 w7 hU7 hS7 hd7; refine R.assign ?_; refine R.nil ?_; refine E.ret ?_; refine ret1 v7 rfl rfl ⟨_, rfl, ?_, ?_, ?_⟩
    · exact hE.trans hU7 (fun b hb hx => by simp [vblk] at hx; omega)
    · simpa [cellsOf] using hS7
    · intro b hb; rcases hd7 with ⟨h1, _⟩ | ⟨b', h1, h2, _⟩
      · rw [h1] at hb; simp [vblk] at hb; omega
      · rw [h1] at hb; simp at hb; have := hE.size; omega
theorem nonzero_ (w : World) {c : Nat} :
    Calls Try.prog 79 #[.int .u8 (c : Nat)] w (Ret fun r w' => Ext w w' ∧ r = .bool (!decide ((c : Int) = 0))) := by
  refine calls_E (args := [.int .u8 (c : Nat)]) 5 Try.func79 rfl rfl (by simp) ?_; have hE : Ext w w := Upd.refl w; refine E.seq ?_; refine E.regionP rfl ?_; refine R.assign ?_; refine R.nil ?_; refine E.seq ?_; refine E.regionP rfl ?_; refine R.move ?_; refine R.neq rfl rfl rfl ?_; refine R.assign ?_; refine R.nil ?_; refine E.ret ?_; exact ret1 (.bool (!decide ((c : Int) = 0))) rfl rfl ⟨_, rfl, hE, rfl⟩
theorem indexF_ (w : World) {v : Value} {xs : List Nat} (hx : U8s w v xs) (hl : xs.length < 1000000000) :
    Calls Try.prog 80 #[v, .func (.func 79) #[] #[]] w (Ret fun r w' => Ext w w' ∧ ∃ z : Int, r = .int .i64 z ∧ decide (0 ≤ z) = xs.any (fun c => decide (c ≠ 0))) := by
  refine calls_E (args := [v, .func (.func 79) #[] #[]]) 19 Try.func80 rfl rfl (by simp) ?_; have hE : Ext w w := Upd.refl w; refine E.seq ?_; refine E.regionP rfl ?_; refine R.assign ?_; refine R.nil ?_; (iterate 2 refine E.seq ?_); refine E.regionP rfl ?_; refine R.move ?_; refine R.len Try.underlying55 hx rfl ?_; refine R.move ?_; refine R.nil ?_; refine E.block ?_; refine E.loop (fun n e wr => ∃ (i : Nat), n = xs.length - i ∧ i ≤ xs.length ∧ (∀ j (hj : j < xs.length), j < i → xs[j] = 0) ∧ Ext w wr ∧ Has e [(0, v), (1, .func (.func 79) #[] #[]), (6, v), (7, .int .i64 xs.length), (8, .int .i64 (i : Nat))]) (xs.length) ?_ ?_
  · exact ⟨0, rfl, Nat.zero_le _, fun j _ h => absurd h (Nat.not_lt_zero _), hE, rfl, rfl, rfl, rfl, rfl, trivial⟩
  · rintro n e wr ⟨i, rfl, hi, hz, hE, hH⟩; obtain ⟨e, rfl⟩ := hH.ex; clear hH; refine E.seq ?_; refine E.regionP rfl ?_; refine R.lss rfl rfl rfl ?_; refine R.nil ?_; refine E.seq ?_; refine E.cond rfl (fun hc9 => ?_) (fun hc9 => ?_)
    · replace hc9 := dT hc9; have hi1 : i < xs.length := by omega
      refine E.skip ?_; refine E.seq ?_; refine E.block ?_; refine E.seq ?_; refine E.regionP rfl ?_; refine R.move ?_; refine R.assign ?_; refine R.nil ?_; refine E.seq ?_; refine E.regionP rfl ?_; (iterate 3 refine R.move ?_); refine R.ix (m := i) Try.underlying55 t5 (by decide) hx rfl rfl hi1 ?_; refine R.ld (j := i) t5 (hx.ext hE) rfl (u8_at hi1) rfl (fun _ _ => trivial) ?_; refine R.callV1 ent79 (cap := #[]) rfl rfl (nonzero_ _ (c := xs[i])) ?_; rintro v16 w16 ⟨hx16, rfl⟩; refine ⟨nofun, ?_⟩; replace hE := hE.ext hx16; refine R.nil ?_; refine E.cond rfl (fun hc16 => ?_) (fun hc16 => ?_)
      · replace hc16 := nT hc16; refine E.seq ?_; refine E.regionP rfl ?_; refine R.move ?_; refine R.assign ?_; refine R.nil ?_; refine E.ret ?_; have hz9 : decide (0 ≤ (i : Int)) = xs.any (fun c => decide (c ≠ 0)) := by
          rw [decide_eq_true (by omega)]; have q8 : xs[i] ≠ 0 := fun q9 => hc16 (by omega); exact (List.any_eq_true.2 ⟨xs[i], List.getElem_mem hi1, by simpa using q8⟩).symm
        exact ret1 (.int .i64 (i : Nat)) rfl rfl ⟨_, rfl, hE, _, rfl, hz9⟩
      · replace hc16 := nF hc16; refine E.skip ?_; refine E.regionP rfl ?_; refine R.addN (m := i) (n := 1) rfl rfl (by omega) ?_; refine R.move ?_; refine R.nil ?_; exact ⟨xs.length - (i + 1), by omega, i + 1, rfl, by omega, fun j hj hji => by
          rcases Nat.lt_or_ge j i with h1 | h1
          · exact hz j hj h1
          · have e1 : j = i := by omega
            subst e1; have e2 : ((xs[j] : Nat) : Int) = 0 := hc16
            omega, hE, rfl, rfl, rfl, rfl, rfl, trivial⟩
    · replace hc9 := dF hc9; have hin : i = xs.length := by omega
      refine E.exit ?_; refine E.seq ?_; refine E.regionP rfl ?_; refine R.assign ?_; refine R.nil ?_; refine E.ret ?_; have hz9 : decide (0 ≤ (-1 : Int)) = xs.any (fun c => decide (c ≠ 0)) := by
        rw [decide_eq_false (by omega)]; refine (List.any_eq_false.2 (fun c hc => ?_)).symm; obtain ⟨j, hj, rfl⟩ := List.mem_iff_getElem.1 hc; simp [hz j hj (by omega)]
      exact ret1 (.int .i64 (-1)) rfl rfl ⟨_, rfl, hE, _, rfl, hz9⟩
theorem containsF_ (w : World) {v : Value} {xs : List Nat} (hx : U8s w v xs) (hl : xs.length < 1000000000) :
    Calls Try.prog 78 #[v, .func (.func 79) #[] #[]] w (Ret fun r w' => Ext w w' ∧ r = .bool (xs.any (fun c => decide (c ≠ 0)))) := by
  refine calls_E (args := [v, .func (.func 79) #[] #[]]) 9 Try.func78 rfl rfl (by simp) ?_; have hE : Ext w w := Upd.refl w; refine E.seq ?_; refine E.regionP rfl ?_; refine R.assign ?_; refine R.nil ?_; refine E.seq ?_; refine E.regionP rfl ?_; (iterate 2 refine R.move ?_); refine R.callE2 ent80 (indexF_ _ (hx.ext hE) hl) rfl rfl nofun ?_; rintro v7 w1 hx1 ⟨z, rfl, hz⟩; replace hE := hE.ext hx1; refine R.geq rfl rfl rfl ?_; refine R.assign ?_; refine R.nil ?_; refine E.ret ?_; exact ret1 (.bool (decide (0 ≤ z))) rfl rfl ⟨_, rfl, hE, by rw [hz]⟩
end Go.Proofs.Ytlplogplicgfiaa
