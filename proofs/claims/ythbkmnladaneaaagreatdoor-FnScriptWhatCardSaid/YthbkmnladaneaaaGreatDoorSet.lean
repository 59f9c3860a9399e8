/-
  A store into a row of the call's own.
  Conditions: the place lies within the row.
-/
import Derived.Test.YthbkmnladaneaaaGreatDoorLib
import Derived.Test.YthbkmnladaneaaaGreatDoorOwn
import Derived.Test.YthbkmnladaneaaaGreatDoorBut
namespace Go.Proofs.YthbkmnladaneaaaGreatDoor
open Go.RowKit
set_option linter.unusedVariables false

theorem own_set {w : World} {base size n cap g j : Nat} {e : TypeId} {xs : List Value} (h : w.ownsRow base e size (.slice (some ⟨g, 0, none⟩) n cap) n xs) (u : Value) :
    (w.setCell ⟨g, j, none⟩ u).ownsRow base e size (.slice (some ⟨g, 0, none⟩) n cap) n (xs.set j u) := by
  refine ⟨by simpa using h.1, ?_⟩
  rcases h.2 with ⟨h1, _⟩ | ⟨g', cap', cur, hv, hb, hg, hnc, hcm, hs, ht⟩
  · cases h1
  · injection hv with hv _ hcap
    injection hv with hv
    injection hv with hv
    subst hv hcap
    have hk : Bk w g e cur := hg
    refine .inr ⟨g, cap, cur.setIfInBounds j u, rfl, hb, hk.set_ j u, hnc, hcm, by simpa using hs, ?_⟩
    rw [Array.toList_setIfInBounds, List.take_set, ht]
theorem own_free {w : World} {base size n cap g : Nat} {e : TypeId} {xs : List Value} (h : w.ownsRow base e size (.slice (some ⟨g, 0, none⟩) n cap) n xs) (i : Nat) : w.frozen? ⟨g, i, none⟩ = false := by
  rcases h.2 with ⟨h1, _⟩ | ⟨g', cap', cur, hv, hb, hg, hnc, hcm, hs, ht⟩
  · cases h1
  · injection hv with hv _ hcap
    injection hv with hv
    injection hv with hv
    subst hv
    exact (show Bk w g e cur from hg).frozen i
theorem own_cell {w : World} {base size n cap g : Nat} {e : TypeId} {xs : List Value} (h : w.ownsRow base e size (.slice (some ⟨g, 0, none⟩) n cap) n xs) {i : Nat} {u : Value} (hu : xs[i]? = some u) : w.cell? ⟨g, i, none⟩ = some u := by
  rcases h.2 with ⟨h1, _⟩ | ⟨g', cap', cur, hv, hb, hg, hnc, hcm, hs, ht⟩
  · cases h1
  · injection hv with hv _ hcap
    injection hv with hv
    injection hv with hv
    subst hv
    rw [(show Bk w g e cur from hg).cell i]
    rw [← ht, List.getElem?_take] at hu
    split at hu
    · rw [← Array.getElem?_toList]; exact hu
    · cases hu
theorem Only.grown_own {g : Nat} {a w w' : World} {base size n : Nat} {e : TypeId} {v : Value} {xs : List Value} (h : Only g a w) (hg : w.grownBy w' v.ownBlock) (hown : w.ownsRow base e size v n xs) (hs : a.heap.size ≤ base) : Only g a w' :=
  ⟨hg.os.trans h.os, hg.tape.trans h.tape, hg.output.trans h.output, Nat.le_trans h.size hg.size, fun k hk hn => (hg.block k (Nat.lt_of_lt_of_le hk h.size) (fun he => by have := (hown.lt k he.symm).1; omega)).trans (h.block k hk hn)⟩
end Go.Proofs.YthbkmnladaneaaaGreatDoor
