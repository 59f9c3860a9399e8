/-
  Small words for the laws on headers.
  No condition.
-/
import Derived.Test.YtjpglpglgkopiaaDoorHdQ
import Derived.Test.YtjpglpglgkopiaaDoorHdU
import Derived.Test.YtjpglpglgkopiaaDoorHdI
namespace Go.Proofs.YtjpglpglgkopiaaDoor
open Go.RowKit
set_option linter.unusedVariables false

theorem Ints.nil_ {w : World} {B : Nat} {A : Option Addr} : Ints w B A 0 [] := ⟨by simp, fun h => absurd h (by omega)⟩
theorem Ints.step {w w' : World} {A : Option Addr} {n : Nat} {zs : List Int} (h : Ints w w.heap.size A n zs) (hb : Below w.heap.size w w') : Ints w' w'.heap.size A n zs := (h.below hb).more hb.size
theorem HgOk.step {w w' : World} (h : HgOk w) (hb : Below w.heap.size w w') : HgOk w' := h.below hb h.lt
theorem sameI_any (A A' : Option Addr) (n c c' : Nat) (zs : List Int) (w : World) (h : Ints w w.heap.size A n zs) (h' : Ints w w.heap.size A' n zs) (hn : n ≤ 1099511627776) :
    Calls Tryd.prog 20 #[.slice A n c, .slice A' n c'] w fun e w' => e = .returned (.bool true) ∧ Below w.heap.size w w' := sameI_same A A' n c c' w.heap.size zs w h h' hn
theorem pk_new (w : World) (o : Obj) : Below w.heap.size w (w.alloc o) := (Below.refl w.heap.size w).alloc (Nat.le_refl _) o
theorem sameK_any (A A' : Option Addr) (n c c' : Nat) (xs : List Pk) (w : World) (h : Pks w w.heap.size A n xs) (h' : Pks w w.heap.size A' n xs) (hn : n ≤ 1099511627776) :
    Calls Tryd.prog 27 #[.slice A n c, .slice A' n c'] w fun e w' => e = .returned (.bool true) ∧ Below w.heap.size w w' := sameK_below A A' n c c' w.heap.size xs w h h' hn
theorem pks_own {w : World} {base n : Nat} {A : Option Addr} {c : Nat} {xs : List Pk} (h : w.ownsRow base 24 6 (.slice A n c) n (xs.flatMap Pk.c)) : Pks w w.heap.size A n xs := Sl.of_own h
theorem flat_takeP (xs : List Pk) (k : Nat) : (xs.flatMap Pk.c).take (k * 6) = (xs.take k).flatMap Pk.c := by
  induction xs generalizing k with
  | nil => simp
  | cons x xs ih =>
    cases k with
    | zero => simp
    | succ k =>
      rw [List.flatMap_cons, List.take_succ_cons, List.flatMap_cons, ← ih k, List.take_append, show x.c.length = 6 from rfl, show (k + 1) * 6 - 6 = k * 6 by omega, List.take_of_length_le (by show 6 ≤ (k + 1) * 6; omega)]
theorem Pks.take_ {w : World} {B n k : Nat} {A : Option Addr} {xs : List Pk} (h : Pks w B A n xs) (hk : k ≤ n) : Pks w B A k (xs.take k) := by
  have := Sl.take_ h hk
  rwa [flat_takeP] at this
theorem psOk_take {xs : List Pk} (h : psOk xs) (k : Nat) : psOk (xs.take k) := by
  refine ⟨by have := h.1; simp; omega, fun j x hj hx => ?_⟩
  rw [List.getElem?_take] at hx
  split at hx
  · rename_i hjk
    obtain ⟨h1, h2⟩ := h.2 j x (List.getElem?_eq_some_iff.1 hx).1 hx
    refine ⟨h1, fun y h0 hy => h2 y h0 ?_⟩
    rw [List.getElem?_take] at hy
    split at hy
    · exact hy
    · cases hy
  · cases hx
/-- The first headers are read first. -/
theorem hsR_take {near : Int} {zs : List Int} {ps : List Pk} {k : Nat} (h : hsR near zs = some ps) (hk : ps.length = k + 1) : hsR near (zs.take (8 * k)) = some (ps.take k) := by
  obtain ⟨h1, h2, h3, h4⟩ := hsR_some h
  rw [hk] at h4
  exact hsR_of (k := k) (by rw [List.length_take]; omega) (by omega) (hs_take h4) (psOk_take h1 k)
/-- Packets near each other are read. -/
theorem hsR_hB {xs : List Pk} {x0 : Pk} (h : psOk xs) (h0 : xs[0]? = some x0) (hn : ∀ i x y, xs[i]? = some x → xs[i + 1]? = some y → y.wi - x.wi ≤ 30000) : hsR x0.wi (xs.flatMap hB) = some xs := by
  have hl : (xs.flatMap hB).length = 8 * xs.length := by
    clear h h0 hn
    induction xs with
    | nil => rfl
    | cons x xs ih => rw [List.flatMap_cons, List.length_append, ih, hB_len, List.length_cons]; omega
  have hp0 := psOk_at h h0
  refine hsR_of (k := xs.length) hl h.1 (hs_hB (fun p hp => ?_) hp0.1 hp0.2.1 (fun p hp => ?_) (fun i x y hx hy => ?_)) h
  · obtain ⟨i, hi⟩ := List.mem_iff_getElem?.1 hp
    exact psOk_at h hi
  · rw [h0] at hp
    injection hp with hp
    subst hp
    omega
  · have h2 := (h.2 (i + 1) y (List.getElem?_eq_some_iff.1 hy).1 hy).2 x (by omega) (by simpa using hx)
    have h3 := hn i x y hx hy
    unfold pkLt at h2
    omega
end Go.Proofs.YtjpglpglgkopiaaDoor
