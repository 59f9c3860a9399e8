/-
  Rings: the mirrors of the laws: sizes, copies, what is equal, marks.
  Conditions: as each theorem states them.
-/
import Derived.Test.YtjhppghkhfacaaaRows
import Derived.Test.YtjhppghkhfacaaaLib
import Derived.Test.YtjhppghkhfacaaaOwn
import Derived.Test.YtjhppghkhfacaaaBut
import Derived.Test.YtjhppghkhfacaaaRgI
import Derived.Test.YtjhppghkhfacaaaSeqP
import Derived.Outline
namespace Go.Proofs.Ytjhppghkhfacaaa
open Go.RowKit
set_option linter.unusedVariables false
set_option linter.unusedSimpArgs false

set_option maxHeartbeats 1000000 in
theorem szPk_ok (A : Option Addr) (n c : Nat) (w : World) (hn : n ≤ 1048576) :
    Calls Try.prog 33 #[.slice A n c, .int .i64 1048576] w fun e w' => e = .returned (.int .i64 (1048576 - n)) ∧ w = w' := by
  have e0 : decide ((1048576 : Int) - n < 0) = false := by simp; omega
  go_enter Try.func33, Try.ntmps33
  go_wp2
  go_ret
  exact ⟨rfl, rfl⟩
set_option maxHeartbeats 1000000 in
theorem szPk_no (A : Option Addr) (n c : Nat) (w : World) (hn : 1048576 < n) (hc : n ≤ maxLen) :
    Calls Try.prog 33 #[.slice A n c, .int .i64 1048576] w fun e w' => e = .returned (.int .i64 (-1)) ∧ w = w' := by
  unfold maxLen at hc
  have e0 : decide ((1048576 : Int) - n < 0) = true := by simp; omega
  go_enter Try.func33, Try.ntmps33
  go_wp2
  go_ret
  exact ⟨rfl, rfl⟩
set_option maxHeartbeats 1000000 in
theorem szRg_ok (ea cr : Int) (A : Option Addr) (n c : Nat) (w : World) (hn : n ≤ 1048576) :
    Calls Try.prog 14 #[.agg #[.int .i64 ea, .int .i64 cr, .slice A n c], .int .i64 1048576] w fun e w' => e = .returned (.int .i64 (1048576 - n)) ∧ Below w.heap.size w w' := by
  have e0 : decide ((1048576 : Int) - n < 0) = false := by simp; omega
  go_enter Try.func14, Try.ntmps14
  go_wp2_with fail
  refine (szPk_ok A n c _ hn).mono ?_
  rintro e w' ⟨rfl, rfl⟩
  go_wp2
  go_ret
  exact ⟨rfl, (by repeat (first | exact Below.refl _ _ | assumption | refine Below.setCell ?_ (by first | omega | (simp; done) | (simp; omega)) _ | refine Below.alloc ?_ (by first | omega | (simp; done) | (simp; omega)) _ | refine Below.drew ?_ | refine Below.drewN' ?_ _ | refine Below.trans ?_ (Below.mono (by assumption) (by first | omega | (simp; done) | (simp; omega)))))⟩
set_option maxHeartbeats 1000000 in
theorem szRg_no (ea cr : Int) (A : Option Addr) (n c : Nat) (w : World) (hn : 1048576 < n) (hc : n ≤ maxLen) :
    Calls Try.prog 14 #[.agg #[.int .i64 ea, .int .i64 cr, .slice A n c], .int .i64 1048576] w fun e w' => e = .returned (.int .i64 (-1)) ∧ Below w.heap.size w w' := by
  go_enter Try.func14, Try.ntmps14
  go_wp2_with fail
  refine (szPk_no A n c _ hn hc).mono ?_
  rintro e w' ⟨rfl, rfl⟩
  go_wp2
  go_ret
  exact ⟨rfl, (by repeat (first | exact Below.refl _ _ | assumption | refine Below.setCell ?_ (by first | omega | (simp; done) | (simp; omega)) _ | refine Below.alloc ?_ (by first | omega | (simp; done) | (simp; omega)) _ | refine Below.drew ?_ | refine Below.drewN' ?_ _ | refine Below.trans ?_ (Below.mono (by assumption) (by first | omega | (simp; done) | (simp; omega)))))⟩

set_option maxHeartbeats 2000000 in
theorem toRg_any (ea cr : Int) (A : Option Addr) (n c : Nat) (xs : List Pk) (w : World) (h : Pks w w.heap.size A n xs) (hn : n ≤ 2097152) :
    Calls Try.prog 15 #[.agg #[.int .i64 ea, .int .i64 cr, .slice A n c]] w fun e w' => ∃ g, e = .returned (.agg #[.int .i64 ea, .int .i64 cr, .slice (some ⟨g, 0, none⟩) n n]) ∧ w.heap.size ≤ g ∧ Bk w' g 27 (xs.flatMap Pk.c).toArray ∧ Below w.heap.size w w' := by
  have hP := ((Bk.new w 40 #[.int .i64 ea, .int .i64 cr, .slice A n c]).alloc (.cells #[.int .i64 0, .int .i64 0, .slice none 0 0] 25)).alloc (.cells #[.int .i64 ea, .int .i64 cr, .slice none 0 0] 25)
  have hR := (Bk.new (w.alloc (.cells #[.int .i64 ea, .int .i64 cr, .slice A n c] 40)) 25 #[.int .i64 0, .int .i64 0, .slice none 0 0]).alloc (.cells #[.int .i64 ea, .int .i64 cr, .slice none 0 0] 25)
  have hO := Bk.new ((w.alloc (.cells #[.int .i64 ea, .int .i64 cr, .slice A n c] 40)).alloc (.cells #[.int .i64 0, .int .i64 0, .slice none 0 0] 25)) 25 #[.int .i64 ea, .int .i64 cr, .slice none 0 0]
  simp only [World.size_alloc] at hR hO
  go_enter Try.func15, Try.ntmps15
  go_wp2_with fail
  refine (toPacketS_any A n c xs _ ?_ hn).mono ?_
  · exact (Sl.below h (by repeat (first | exact Below.refl _ _ | assumption | refine Below.setCell ?_ (by first | omega | (simp; done) | (simp; omega)) _ | refine Below.alloc ?_ (by first | omega | (simp; done) | (simp; omega)) _ | refine Below.drew ?_ | refine Below.drewN' ?_ _ | refine Below.trans ?_ (Below.mono (by assumption) (by first | omega | (simp; done) | (simp; omega)))))).more (by first | omega | (simp; done) | (simp; omega))
  rintro e w1 ⟨g, rfl, hg, hrow, hb1⟩
  replace hP := hP.below hb1 (by first | omega | exact hP.lt | (simp; done) | (simp; omega))
  (try clear hP_c0); (try clear hP_f0)
  (try clear hP_c1); (try clear hP_f1)
  (try clear hP_c2); (try clear hP_f2)
  (try clear hP_lt)
  have hP_lt := hP.lt; (try simp only [World.size_alloc] at hP_lt)
  have hP_c0 := hP.cell 0; have hP_f0 := hP.frozen 0
  have hP_c1 := hP.cell 1; have hP_f1 := hP.frozen 1
  have hP_c2 := hP.cell 2; have hP_f2 := hP.frozen 2
  simp only [List.getElem?_toArray, List.getElem?_cons_zero, List.getElem?_cons_succ] at hP_c0 hP_c1 hP_c2
  replace hR := hR.below hb1 (by first | omega | exact hR.lt | (simp; done) | (simp; omega))
  (try clear hR_c0); (try clear hR_f0)
  (try clear hR_c1); (try clear hR_f1)
  (try clear hR_c2); (try clear hR_f2)
  (try clear hR_lt)
  have hR_lt := hR.lt; (try simp only [World.size_alloc] at hR_lt)
  have hR_c0 := hR.cell 0; have hR_f0 := hR.frozen 0
  have hR_c1 := hR.cell 1; have hR_f1 := hR.frozen 1
  have hR_c2 := hR.cell 2; have hR_f2 := hR.frozen 2
  simp only [List.getElem?_toArray, List.getElem?_cons_zero, List.getElem?_cons_succ] at hR_c0 hR_c1 hR_c2
  replace hO := hO.below hb1 (by first | omega | exact hO.lt | (simp; done) | (simp; omega))
  (try clear hO_c0); (try clear hO_f0)
  (try clear hO_c1); (try clear hO_f1)
  (try clear hO_c2); (try clear hO_f2)
  (try clear hO_lt)
  have hO_lt := hO.lt; (try simp only [World.size_alloc] at hO_lt)
  have hO_c0 := hO.cell 0; have hO_f0 := hO.frozen 0
  have hO_c1 := hO.cell 1; have hO_f1 := hO.frozen 1
  have hO_c2 := hO.cell 2; have hO_f2 := hO.frozen 2
  simp only [List.getElem?_toArray, List.getElem?_cons_zero, List.getElem?_cons_succ] at hO_c0 hO_c1 hO_c2
  have hB1 : Below w.heap.size w w1 := (by repeat (first | exact Below.refl _ _ | assumption | refine Below.setCell ?_ (by first | omega | (simp; done) | (simp; omega)) _ | refine Below.alloc ?_ (by first | omega | (simp; done) | (simp; omega)) _ | refine Below.drew ?_ | refine Below.drewN' ?_ _ | refine Below.trans ?_ (Below.mono (by assumption) (by first | omega | (simp; done) | (simp; omega)))))
  simp only [World.size_alloc] at hg
  have hgl := hrow.lt
  have HROW := Lib.hid hrow
  clear hrow hb1
  go_wp2
  refine ⟨rfl, ?_⟩
  apply Exists.intro
  apply And.intro
  · simp [results, Try.results15, go_sem, hR_c0, hR_c1, hR_c2, hO_c0, hO_c1, hO_c2, hR_lt, hO_lt]; exact rfl
  · exact ⟨g, rfl, by omega, by repeat (first | with_reducible exact HROW.out | refine Bk.far ?_ (by first | (show g ≠ w.heap.size + 1; omega) | (show g ≠ w.heap.size + 1 + 1; omega)) _), by repeat (first | with_reducible exact hB1 | refine Below.setCell ?_ (by first | (show w.heap.size ≤ w.heap.size + 1; omega) | (show w.heap.size ≤ w.heap.size + 1 + 1; omega)) _)⟩

set_option maxHeartbeats 1000000 in
theorem eqRg_same (ea cr : Int) (A A' : Option Addr) (n c c' B : Nat) (xs : List Pk) (w : World) (h : Pks w B A n xs) (h' : Pks w B A' n xs) (hB : B ≤ w.heap.size) (hn : n ≤ 1099511627776) :
    Calls Try.prog 17 #[.agg #[.int .i64 ea, .int .i64 cr, .slice A n c], .agg #[.int .i64 ea, .int .i64 cr, .slice A' n c']] w fun e w' => e = .returned (.bool true) ∧ Below w.heap.size w w' := by
  go_enter Try.func17, Try.ntmps17
  go_wp2_with fail
  refine (eqPacketS_same A A' n c c' B xs _ ((Sl.alloc (Sl.alloc h hB _) (by simp; omega) _)) ((Sl.alloc (Sl.alloc h' hB _) (by simp; omega) _)) (by simp; omega) hn).mono ?_
  rintro e w1 ⟨rfl, hb1⟩
  have hB1 : Below w.heap.size w w1 := (by repeat (first | exact Below.refl _ _ | assumption | refine Below.setCell ?_ (by first | omega | (simp; done) | (simp; omega)) _ | refine Below.alloc ?_ (by first | omega | (simp; done) | (simp; omega)) _ | refine Below.drew ?_ | refine Below.drewN' ?_ _ | refine Below.trans ?_ (Below.mono (by assumption) (by first | omega | (simp; done) | (simp; omega)))))
  go_wp2
  go_ret
  exact ⟨rfl, hB1⟩

set_option maxHeartbeats 1000000 in
theorem markRg_any (ea cr : Int) (A : Option Addr) (g n c : Nat) (cs : List Value) (k0 : Int) (w : World) (h : 0 < n → A = some ⟨g, 0, none⟩ ∧ Bk w g 27 cs.toArray ∧ n * 6 ≤ cs.length) (hc : n ≤ 2097152) (hk : 0 ≤ k0) (hk' : k0 ≤ 1099511627776) :
    Calls Try.prog 18 #[.agg #[.int .i64 ea, .int .i64 cr, .slice A n c], .int .i64 k0] w fun e w' => e = .returned (.int .i64 (k0 + n * 6)) ∧ (0 < n → ∃ r, Bk w' g 27 (mksP k0 n ++ r).toArray) ∧ But (fun k => k = g ∧ 0 < n) w w' := by
  go_enter Try.func18, Try.ntmps18
  go_wp2_with fail
  refine (markPacketS_any A g n c cs k0 _ (fun hn => ⟨(h hn).1, (h hn).2.1.alloc _, (h hn).2.2⟩) hc hk hk').mono ?_
  rintro e w1 ⟨rfl, hr, hb⟩
  have HR := Lib.hid hr
  have HB := Lib.hid (((But.refl (fun k => k = g ∧ 0 < n) w).alloc (.cells #[.int .i64 ea, .int .i64 cr, .slice A n c] 25)).trans hb)
  clear hr hb
  go_wp2
  go_ret
  exact ⟨rfl, HR.out, HB.out⟩
set_option maxHeartbeats 1000000 in
theorem heldRg_any (ea cr : Int) (A : Option Addr) (g n c : Nat) (r : List Value) (k0 : Int) (w : World) (h : 0 < n → A = some ⟨g, 0, none⟩ ∧ Bk w g 27 (mksP k0 n ++ r).toArray) (hc : n ≤ 2097152) (hk : 0 ≤ k0) (hk' : k0 ≤ 1099511627776) :
    Calls Try.prog 19 #[.agg #[.int .i64 ea, .int .i64 cr, .slice A n c], .int .i64 k0] w fun e w' => e = .returned (.int .i64 (k0 + n * 6)) ∧ Below w.heap.size w w' := by
  have e0 : decide (k0 + (n : Int) * 3 < 0) = false := by simp; omega
  go_enter Try.func19, Try.ntmps19
  go_wp2_with fail
  refine (heldPacketS_any A g n c r k0 _ (fun hn => ⟨(h hn).1, (h hn).2.alloc _⟩) hc hk hk').mono ?_
  rintro e w1 ⟨rfl, rfl⟩
  go_wp2
  go_ret
  exact ⟨rfl, (by repeat (first | exact Below.refl _ _ | assumption | refine Below.setCell ?_ (by first | omega | (simp; done) | (simp; omega)) _ | refine Below.alloc ?_ (by first | omega | (simp; done) | (simp; omega)) _ | refine Below.drew ?_ | refine Below.drewN' ?_ _ | refine Below.trans ?_ (Below.mono (by assumption) (by first | omega | (simp; done) | (simp; omega)))))⟩
end Go.Proofs.Ytjhppghkhfacaaa
