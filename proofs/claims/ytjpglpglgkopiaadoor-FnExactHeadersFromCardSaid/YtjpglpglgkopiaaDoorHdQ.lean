/-
  What the laws compare: numbers, packets.
  Conditions: the slices' memory.
-/
import Derived.Laws.StructEq
import Derived.Test.YtjpglpglgkopiaaDoorLib
import Derived.Test.YtjpglpglgkopiaaDoorBasP
import Derived.Outline
namespace Go.Proofs.YtjpglpglgkopiaaDoor
open Go.RowKit
set_option linter.unusedVariables false
set_option linter.unusedSimpArgs false

theorem Pks.step {w w' : World} {A : Option Addr} {n : Nat} {xs : List Pk} (h : Pks w w.heap.size A n xs) (hb : Below w.heap.size w w') : Pks w' w'.heap.size A n xs := (h.below hb).more hb.size
theorem Pks.bw {w : World} {A : Option Addr} {n : Nat} {xs : List Pk} (h : Pks w w.heap.size A n xs) (x : BW w.heap.size w) : Pks x.1 x.1.heap.size A n xs := (h.below x.2).more x.2.size
theorem Pks.none_ {w : World} {B : Nat} {A : Option Addr} : Pks w B A 0 [] := ⟨rfl, fun h => absurd h (by omega)⟩
set_option maxHeartbeats 1000000 in
theorem sameI_same (A A' : Option Addr) (n c c' B : Nat) (zs : List Int) (w : World) (h : Ints w B A n zs) (h' : Ints w B A' n zs) (hn : n ≤ 1099511627776) :
    Calls Tryd.prog 20 #[.slice A n c, .slice A' n c'] w fun e w' => e = .returned (.bool true) ∧ Below w.heap.size w w' := by
  have e0 : ((n : Int) != n) = false := by simp
  go_enter Tryd.func20, Tryd.ntmps20
  go_wp2
  go_loopw [5] (fun i wr => ∃ k m : Nat, k ≤ n ∧ i = .int .i64 k ∧ wr = w.drewN m) (fun i _ => n - (intOf i).toNat)
  case atStart => exact ⟨0, 0, by omega, rfl, rfl⟩
  case round =>
    obtain ⟨k, m, hk, rfl, rfl⟩ := hrel
    by_cases hlt : k < n
    · obtain ⟨b, off, rfl, hbB, hcell⟩ := h.at_ (by omega)
      obtain ⟨b', off', rfl, hbB', hcell'⟩ := h'.at_ (by omega)
      have hck := hcell k hlt
      have hck' := hcell' k hlt
      clear hcell hcell'
      go_wp2
      go_quiet (fail)
      go_wp2
      go_roundw
      case rel => exact ⟨k + 1, _, by omega, by go_num, rfl⟩
      case measure => simp [intOf]; omega
    · go_wp2
      go_ret
      exact ⟨rfl, Below.drewN' (Below.refl _ _) m⟩
set_option maxHeartbeats 2000000 in
theorem sameK_same (A A' : Option Addr) (n c c' B : Nat) (xs : List Pk) (w : World) (h : Pks w B A n xs) (h' : Pks w B A' n xs) (hn : n ≤ 1099511627776) :
    Calls Tryd.prog 27 #[.slice A n c, .slice A' n c'] w fun e w' => e = .returned (.bool true) ∧ ∃ m, w' = w.drewN m := by
  have HL := Lib.hid h.len
  have e0 : ((n : Int) != n) = false := by simp
  go_enter Tryd.func27, Tryd.ntmps27
  go_wp2
  go_loopw [5] (fun i wr => ∃ k m : Nat, k ≤ n ∧ i = .int .i64 k ∧ wr = w.drewN m) (fun i _ => n - (intOf i).toNat)
  case atStart => exact ⟨0, 0, by omega, rfl, rfl⟩
  case round =>
    obtain ⟨k, m, hk, rfl, rfl⟩ := hrel
    by_cases hlt : k < n
    · obtain ⟨b, off, rfl, hbB, hcell⟩ := h.addr (by omega)
      obtain ⟨b', off', rfl, hbB', hcell'⟩ := h'.addr (by omega)
      obtain ⟨x, hx⟩ : ∃ x, xs[k]? = some x := ⟨_, List.getElem?_eq_getElem (by rw [HL.out]; exact hlt)⟩
      obtain ⟨c0, c1, c2, c3, c4, c5⟩ := hcell k x hx
      obtain ⟨d0, d1, d2, d3, d4, d5⟩ := hcell' k x hx
      have hk0 : (0 : Int) ≤ (k : Int) := Int.natCast_nonneg _
      have hk1 : (k : Int) < (n : Int) := by omega
      clear hcell hcell' hx
      go_wp2
      go_quiet (fail)
      go_wp2
      go_roundw
      case rel => exact ⟨k + 1, _, by omega, by go_num, rfl⟩
      case measure => simp [intOf]; omega
    · go_wp2
      go_ret
      exact ⟨rfl, _, rfl⟩
theorem sameK_below (A A' : Option Addr) (n c c' B : Nat) (xs : List Pk) (w : World) (h : Pks w B A n xs) (h' : Pks w B A' n xs) (hn : n ≤ 1099511627776) :
    Calls Tryd.prog 27 #[.slice A n c, .slice A' n c'] w fun e w' => e = .returned (.bool true) ∧ Below w.heap.size w w' :=
  (sameK_same A A' n c c' B xs w h h' hn).mono fun _ _ ⟨h1, m, h2⟩ => ⟨h1, h2 ▸ Below.drewN' (Below.refl _ _) m⟩

end Go.Proofs.YtjpglpglgkopiaaDoor
