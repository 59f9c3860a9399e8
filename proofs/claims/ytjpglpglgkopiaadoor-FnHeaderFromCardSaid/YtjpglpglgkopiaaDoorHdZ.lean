/-
  Small words for the laws on headers.
  No condition.
-/
import Derived.Test.YtjpglpglgkopiaaDoorHdQ
import Derived.Test.YtjpglpglgkopiaaDoorHdU
import Derived.Test.YtjpglpglgkopiaaDoorHdI
namespace Go.Proofs.YtjpglpglgkopiaaDoor
open Go.RowKit
set_option linter.unusedVariables false

theorem Ints.nil_ {w : World} {B : Nat} {A : Option Addr} : Ints w B A 0 [] := ⟨by simp, fun h => absurd h (by omega)⟩
theorem Ints.step {w w' : World} {A : Option Addr} {n : Nat} {zs : List Int} (h : Ints w w.heap.size A n zs) (hb : Below w.heap.size w w') : Ints w' w'.heap.size A n zs := (h.below hb).more hb.size
theorem HgOk.step {w w' : World} (h : HgOk w) (hb : Below w.heap.size w w') : HgOk w' := h.below hb h.lt
theorem sameI_any (A A' : Option Addr) (n c c' : Nat) (zs : List Int) (w : World) (h : Ints w w.heap.size A n zs) (h' : Ints w w.heap.size A' n zs) (hn : n ≤ 1099511627776) :
    Calls Tryd.prog 20 #[.slice A n c, .slice A' n c'] w fun e w' => e = .returned (.bool true) ∧ Below w.heap.size w w' := sameI_same A A' n c c' w.heap.size zs w h h' hn
theorem pk_new (w : World) (o : Obj) : Below w.heap.size w (w.alloc o) := (Below.refl w.heap.size w).alloc (Nat.le_refl _) o
end Go.Proofs.YtjpglpglgkopiaaDoor
