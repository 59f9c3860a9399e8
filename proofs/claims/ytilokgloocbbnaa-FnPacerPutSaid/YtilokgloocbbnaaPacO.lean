/-
  Pacers: small lemmas for the laws.
  Conditions: as each theorem states them.
-/
import Derived.Laws.StructEq
import Derived.Deep.RegionHeld3
import Derived.Test.YtilokgloocbbnaaRows
import Derived.Test.YtilokgloocbbnaaLib
import Derived.Test.YtilokgloocbbnaaOwn
import Derived.Test.YtilokgloocbbnaaBut
import Derived.Test.YtilokgloocbbnaaDraw
import Derived.Test.YtilokgloocbbnaaInv
import Derived.Test.YtilokgloocbbnaaSlots
import Derived.Test.YtilokgloocbbnaaApp
import Derived.Test.YtilokgloocbbnaaPac
import Derived.Test.YtilokgloocbbnaaPacB
import Derived.Test.YtilokgloocbbnaaPacD
import Derived.Test.YtilokgloocbbnaaPacI
import Derived.Test.YtilokgloocbbnaaPacJ
import Derived.Test.YtilokgloocbbnaaPacK
import Derived.Test.YtilokgloocbbnaaPacM
import Derived.Test.YtilokgloocbbnaaPacN
namespace Go.Proofs.Ytilokgloocbbnaa
open Go.RowKit
set_option linter.unusedVariables false
set_option linter.unusedSimpArgs false

theorem Wts.step {w w' : World} {A : Option Addr} {n : Nat} {xs : List Wt} (h : Wts w w.heap.size A n xs) (hb : Below w.heap.size w w') : Wts w' w'.heap.size A n xs := (h.below hb).more hb.size
theorem sameW_below (A A' : Option Addr) (n c c' B : Nat) (xs : List Wt) (w : World) (h : Wts w B A n xs) (h' : Wts w B A' n xs) (hB : B ≤ w.heap.size) (hn : n ≤ 1099511627776) :
    Calls Try.prog 18 #[.slice A n c, .slice A' n c'] w fun e w' => e = .returned (.bool true) ∧ Below w.heap.size w w' :=
  (sameW_same A A' n c c' B xs w h h' hn).mono fun _ _ ⟨h1, m, h2⟩ => ⟨h1, h2 ▸ Below.drewN' (Below.refl _ _) m⟩
end Go.Proofs.Ytilokgloocbbnaa
