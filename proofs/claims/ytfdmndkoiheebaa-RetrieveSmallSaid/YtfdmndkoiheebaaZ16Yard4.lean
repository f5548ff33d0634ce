import Derived.Test.YtfdmndkoiheebaaZ16N1
namespace Go.Proofs.Ytfdmndkoiheebaa
open Go Go.RowKit
structure MvP (xss : List (List Int)) (H : Nat) (nw : List (List Int)) (ds bs : List (Int × Int)) : Prop where
  right : RightP nw H
  play : playL H xss 0 ds = (nw, 0, 0)
  back : playL H nw 0 bs = (xss, 0, 0)
  perm : nw.flatten.Perm xss.flatten
  len : nw.length = xss.length
  same : bs.length = ds.length
theorem MvP.start {xss : List (List Int)} {H : Nat} (hR : RightP xss H) : MvP xss H xss [] [] := ⟨hR, rfl, rfl, List.Perm.refl _, rfl, rfl⟩
theorem PY.mo {w : World} {v : Value} {H ba : Nat} {us : List Value} {cur : Array Value} {xss : List (List Int)} (h : PY w v H ba us cur xss) : MO w v us xss := ⟨h.outer, fun i hi => ⟨_, (h.elems i hi).1, h.row i hi⟩⟩
theorem YO.mo {w w' : World} {v : Value} {h : Int} {xss : List (List Int)} (y : YO w w' v h xss) : ∃ us, MO w' v us xss := by
  rcases y with ⟨rfl, _, rfl⟩ | ⟨H, ba, us, cur, _, hP, _⟩
  · exact ⟨[], MO.nil _⟩
  · exact ⟨us, hP.mo⟩
theorem MO.upS {w w' : World} {v x : Value} {us : List Value} {xss : List (List Int)} {ty' : TypeId} {k' m : Nat} {ds : List Value} (h : MO w v us xss) (u : Upd (fun b => vblk x = some b) w w') (hx : Sl w ty' k' x m ds) (hne : 35 ≠ ty' ∧ 3 ≠ ty') : MO w' v us xss :=
  ⟨h.outer.upS u hx hne.1, fun i hi => by obtain ⟨y, h1, h2⟩ := h.elems i hi; exact ⟨y, h1, h2.upS u hx hne.2⟩⟩
end Go.Proofs.Ytfdmndkoiheebaa
