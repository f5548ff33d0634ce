import Derived.Test.YtlplogplicgfiaaZ7KT
namespace Go.Proofs.Ytlplogplicgfiaa
open Go Go.RowKit
def JoX (w : World) (N pd : Nat) (jp : Value) : Option Jn → Prop
  | none => jp = .pointer none
  | some j => ∃ pj vl us, jp = .pointer (some ⟨pj, 0, none⟩) ∧ JM w pj pd vl us j ∧ N ≤ pj
def ShX (w : World) (N p : Nat) (s : Sp) (jo : Option Jn) : Prop := ∃ pd vb vd jp, ShM w p pd vb vd jp s ∧ N ≤ p ∧ (∀ x, DB pd vb vd x → N ≤ x) ∧ JoX w N pd jp jo
theorem ShX.ext {w w' : World} {N p : Nat} {s : Sp} {jo : Option Jn} (h : ShX w N p s jo) (u : Ext w w') : ShX w' N p s jo := by
  obtain ⟨pd, vb, vd, jp, h1, h2, h3, h4⟩ := h
  refine ⟨pd, vb, vd, jp, h1.up u (fun _ _ _ _ _ e => e.elim), h2, h3, ?_⟩
  cases jo with
  | none => exact h4
  | some j =>
    obtain ⟨pj, vl, us, h5, h6, h7⟩ := h4
    exact ⟨pj, vl, us, h5, h6.ext u, h7⟩
theorem ShX.upT {w w' : World} {N p b : Nat} {s : Sp} {jo : Option Jn} {ty : TypeId} {cs : Array Value} (h : ShX w N p s jo) (u : Upd (one b) w w') (hB : Blk w b ty cs) (hne : ty ≠ 69 ∧ ty ≠ 25 ∧ ty ≠ 27 ∧ ty ≠ 4 ∧ ty ≠ 55 ∧ ty ≠ 5 ∧ 86 ≠ ty ∧ 106 ≠ ty ∧ 5 ≠ ty) : ShX w' N p s jo := by
  obtain ⟨pd, vb, vd, jp, h1, h2, h3, h4⟩ := h
  refine ⟨pd, vb, vd, jp, h1.up u (fun x ty' cs' q h4 e => ?_), h2, h3, ?_⟩
  · have e1 : x = b := e
    subst e1
    have := (q.inj hB).2
    subst this
    obtain ⟨n1, n2, n3, n4, n5, n6, _⟩ := hne
    rcases h4 with h | h | h | h | h | h <;> contradiction
  · cases jo with
    | none => exact h4
    | some j =>
      obtain ⟨pj, vl, us, h5, h6, h7⟩ := h4
      exact ⟨pj, vl, us, h5, h6.upT u hB ⟨hne.2.2.2.2.2.2.1, hne.2.2.2.2.2.2.2.1, hne.2.2.2.2.2.2.2.2⟩, h7⟩
theorem ShG.x {w : World} {N p : Nat} {s : Sp} {j : Jn} (h : ShG w N p s j) : ShX w N p s (some j) := by
  obtain ⟨pd, vb, vd, pj, vl, us, h1, h2, h3, h4, h5⟩ := h
  exact ⟨pd, vb, vd, _, h1, h3, h5, pj, vl, us, rfl, h2, h4⟩
theorem rot1_eq (d : Dk) (i : Nat) : rot1 d i = d ∨ (d.bad.getD ((i + d.n) % (2 * d.n)) true = false ∧ rot1 d i = rotD d i) := by
  unfold rot1
  cases h : d.bad.getD ((i + d.n) % (2 * d.n)) true with
  | true => left; rfl
  | false => right; exact ⟨rfl, rfl⟩
theorem KS.rot {n c : Nat} {s : Sp} {jo : Option Jn} {i : Nat} (h : KS n c s jo) (hn : 0 < n) (hi : i < 2 * n) : KS n c { s with d := rot1 s.d i } jo := by
  rcases rot1_eq s.d i with e | ⟨hb, e⟩
  · rw [e]; exact h
  · rw [e]; rw [h.dn] at hb; exact h.rots hn hi hb
theorem kapp_ (w : World) {N b902 m p n c : Nat} {s : Sp} {j : Jn} {power : Int} (hX : ShX w N b902 s (some j)) (hK : KS n c s (some j)) (hn : 0 < n) (hc : c ≤ 1000000) (hm : m ≤ 4032) (hp : p ≤ 1000000) (hpw : power ≤ 9223372036854775807) :
    Calls Try.prog 30 #[.pointer (some ⟨b902, 0, none⟩), .int .i64 (m : Nat), .int .i64 (p : Nat), .int .i64 power] w (Ret fun r w' => Upd (fun x => N ≤ x) w w' ∧ r = .bool true ∧ ∃ s' jo', ShX w' N b902 s' jo' ∧ KS n (c + 1) s' jo') := by
  obtain ⟨pd, vb, vd, jp, h1, h3, h5, pj, vl, us, rfl, h2, h4⟩ := hX
  obtain ⟨I, hk⟩ := hK.st
  have hmod := Nat.mod_lt p (show 0 < s.live.length + 1 by omega)
  have hnl := s.d.n_le
  have hdn := hK.dn
  have hcnt := hK.cnt
  refine (sappend_ w h1 h2 hk.inv.h (by omega) hp (by omega) hpw (fun i hi => by have := hk.inv.at_ i hi; omega) (fun rec hr hb => (hK.app hn hc (by omega) (by omega) (by omega) hb hpw).1)).mono ?_
  rintro e w' ⟨v, hv, hU, hr, rec, hl, hb, hS⟩
  obtain ⟨_, k1, k2, k3⟩ := hK.app (g := s.first + p % (s.live.length + 1)) hn hc (by omega) (by omega) (show rec.length ≤ 4032 by omega) hb hpw
  refine ⟨v, hv, hU.mono (fun x _ hx => ?_), hr, ?_⟩
  · rcases hx with rfl | rfl | hx
    · exact h3
    · exact h4
    · exact h5 x hx
  · rcases hS with ⟨q1, ⟨vl', us', q2⟩, q3⟩ | ⟨d', j', q1, ⟨vl', us', q2⟩, q3⟩ | ⟨d', j', q1, q3⟩
    · exact ⟨_, some j, ⟨pd, vb, vd, _, q3, h3, h5, pj, vl', us', rfl, q2, h4⟩, k1 _ q1 rfl⟩
    · exact ⟨_, some j', ⟨pd, vb, vd, _, q3, h3, h5, pj, vl', us', rfl, q2, h4⟩, k2 _ _ q1⟩
    · exact ⟨_, none, ⟨pd, vb, vd, _, q3, h3, h5, rfl⟩, (k3 _ _ q1).2⟩
theorem kopen_ (w : World) {N b902 n c : Nat} {s : Sp} {jo : Option Jn} {power : Int} (hX : ShX w N b902 s jo) (hK : KS n c s jo) (hn : 0 < n) (hc : c ≤ 10000) (hpw : power ≤ 9223372036854775807) :
    Calls Try.prog 32 #[.pointer (some ⟨b902, 0, none⟩), .int .i64 power] w (Ret fun r w' => Upd (fun x => N ≤ x) w w' ∧ r = .bool true ∧ ∃ s' jo', ShX w' N b902 s' jo' ∧ KS n (c + 1) s' jo' ∧ (power < 0 → jo' ≠ none)) := by
  obtain ⟨pd, vb, vd, jp, h1, h3, h5, _⟩ := hX
  have hK0 := hK.none_
  obtain ⟨k0, k1, k2, k3⟩ := hK0.open hn (by omega) hpw
  have hnum := hK.num
  have hsz : N ≤ w.heap.size := by obtain ⟨_, _, _, hB, _⟩ := h1.ex; have := hB.lt; omega
  refine (sopen_ w h1 hpw (by omega) (by omega) k0).mono ?_
  rintro e w' ⟨v, hv, hU, hr, hS⟩
  refine ⟨v, hv, hU.mono (fun x _ hx => ?_), hr, ?_⟩
  · rcases hx with rfl | hx
    · exact h3
    · exact h5 x hx
  · rcases hS with ⟨d', q1, q3⟩ | ⟨d', j', pj, vl, us, q1, q2, q3, q4, q5⟩ | ⟨d', j', pj, vl, us, q1, q2, q3, q4, q5, q6⟩
    · exact ⟨_, none, ⟨pd, vb, vd, _, q3, h3, h5, rfl⟩, (k1 _ q1).2, fun h => by have := (k1 _ q1).1; omega⟩
    · exact ⟨_, some j', ⟨pd, vb, vd, _, q5, h3, h5, pj, vl, us, rfl, q3, by omega⟩, k2 _ _ q1 q2, fun _ => by simp⟩
    · exact ⟨_, some j', ⟨pd, vb, vd, _, q6, h3, h5, pj, vl, us, rfl, q4, by omega⟩, k3 _ _ q1 q2 q3, fun _ => by simp⟩
end Go.Proofs.Ytlplogplicgfiaa
