/-
  The statement FnRingPutKeep: the law returns true for every input, and what was there before the call has not turned.
  No condition beyond the given statement.
-/
import Derived.Test.YtjhppghkhfacaaaRows
import Derived.WalkKit
import Derived.ProofKit
import Derived.OpenShut
import Derived.ShutString
import Derived.ChangeOld
import Derived.Below
import Derived.Test.YtjhppghkhfacaaaRgF
import Derived.Test.YtjhppghkhfacaaaRgH
import Derived.Test.YtjhppghkhfacaaaRgJ
namespace Go.Proofs.Ytjhppghkhfacaaa.fnRingPutKeep
open Go.ChangeShapes Go.WideShapes Go.ChangeAt Go.RowKit
open Go.ChangeMaps (open_string shut_string)
set_option linter.unusedVariables false

theorem own : ownKnob Try.prog.godebug = none := by kernel_rfl
theorem laidOut : laidOutB Try.prog = true := by kernel_rfl

/-- WHAT THE WALK IS TOLD OF A SLICE OF INTEGERS THAT CAME IN: it is nil; or it leads to a row of 'cap' cells, the numbers 'zs' (the first 'len' are its elements, the rest its spare room), each fitting its kind. -/
def IsRow (k : IntKind) (w : World) (a : Option Addr) (len cap : Nat) (zs : List Int) : Prop :=
  (a = none ∧ len = 0 ∧ cap = 0 ∧ zs = []) ∨
  ∃ x, a = some x ∧ len ≤ cap ∧ cap ≤ maxLen ∧ zs.length = cap ∧ (∀ i, i < zs.length → w.cell? (x.add i) = some (.int k (zs.getD i 0))) ∧ ∀ n ∈ zs, (Lit.int k n).wf = true


/-! ### STEP 1: THE WALK: the Go text returns true, AND WRITES NOTHING THAT WAS THERE: 'Below w.heap.size w w'' (Derived/Below.lean: '.refl', '.alloc', '.drew', '.setCell' at a new block, '.trans'). Open each 'IsRow' by 'rcases' AHEAD of 'go_enter'; part every test ahead of the walk. -/
set_option maxHeartbeats 4000000 in
set_option maxRecDepth 100000 in
theorem walk (a0 : Option Addr) (len0 cap0 : Nat) (z0 : List Int) (w : World) (w0 : IsRow .u8 w a0 len0 cap0 z0) :
    Calls Try.prog 5 #[.slice a0 len0 cap0] w fun e w' => e = .returned (.bool true) ∧ Below w.heap.size w w' := by
  obtain ⟨hb, hnc, hc⟩ := bytes_of_row w0
  have hcm := hc
  unfold maxLen at hcm
  by_cases hbig : 1048576 < len0
  · have e1 : decide (1048576 < len0) = true := by simpa using hbig
    go_enter Try.func5, Try.ntmps5
    go_wp2
    go_ret
    exact ⟨rfl, Below.refl _ _⟩
  have e1 : decide (1048576 < len0) = false := by simpa using hbig
  go_enter Try.func5, Try.ntmps5
  go_wp2_with fail
  refine (draw_rput a0 len0 cap0 _ hb hnc hc).mono ?_
  rintro x w1 ⟨a, b, u, y, rfl, hpf, hb1⟩
  obtain ⟨ro, co, A, n, c, xs, rfl, rfl, rfl, hn8, hnc', hc', hco0, hco1, hX, -⟩ := hpf
  have hs1 := hb1.size
  have hn4 : n ≤ 1099511627776 := by omega
  have hbx : Below w1.heap.size w1 ((w1.alloc (.cells #[.int .i64 ro, .int .i64 co, .slice A n c] 25)).alloc (.cells #[.int .i64 y.wi, .int .i64 y.ti, .int .i64 y.la, .int .i64 y.si, .bool y.ky, .bool y.en] 27)) := (by repeat (first | exact Below.refl _ _ | assumption | refine Below.setCell ?_ (by first | omega | (simp; done) | (simp; omega)) _ | refine Below.alloc ?_ (by first | omega | (simp; done) | (simp; omega)) _ | refine Below.drew ?_ | refine Below.drewN' ?_ _ | refine Below.trans ?_ (Below.mono (by assumption) (by first | omega | (simp; done) | (simp; omega)))))
  have hP := (Bk.new w1 25 #[.int .i64 ro, .int .i64 co, .slice A n c]).alloc (.cells #[.int .i64 y.wi, .int .i64 y.ti, .int .i64 y.la, .int .i64 y.si, .bool y.ky, .bool y.en] 27)
  have hW := Bk.new (w1.alloc (.cells #[.int .i64 ro, .int .i64 co, .slice A n c] 25)) 27 #[.int .i64 y.wi, .int .i64 y.ti, .int .i64 y.la, .int .i64 y.si, .bool y.ky, .bool y.en]
  simp only [World.size_alloc] at hW
  replace hX := hX.step hbx
  have hB1 := hb1.trans (hbx.mono hs1)
  clear hbx hb1
  by_cases hin : RpIn ro co xs y
  rotate_left
  · have HNO := Lib.hid hin
    clear hin
    go_wp2_with fail
    refine (irp_bad ro co A n c xs y _ hX hn4 hnc' hc' HNO.out).mono ?_
    rintro x w2 ⟨rfl, hb2⟩
    replace hX := hX.step hb2
    replace hP := hP.below hb2 (by first | omega | exact hP.lt | (simp; done) | (simp; omega))
    replace hW := hW.below hb2 (by first | omega | exact hW.lt | (simp; done) | (simp; omega))
    have hB2 := hB1.trans (hb2.mono hB1.size)
    have hs2 : w1.heap.size + 1 + 1 ≤ w2.heap.size := by have := hb2.size; simpa using this
    have hbx : Below w2.heap.size w2 (w2.alloc (.cells #[.int .i64 0, .int .i64 0, .slice none 0 0] 25)) := (by repeat (first | exact Below.refl _ _ | assumption | refine Below.setCell ?_ (by first | omega | (simp; done) | (simp; omega)) _ | refine Below.alloc ?_ (by first | omega | (simp; done) | (simp; omega)) _ | refine Below.drew ?_ | refine Below.drewN' ?_ _ | refine Below.trans ?_ (Below.mono (by assumption) (by first | omega | (simp; done) | (simp; omega)))))
    have hO := Bk.new w2 25 #[.int .i64 0, .int .i64 0, .slice none 0 0]
    replace hX := hX.step hbx
    have hB2' := hB2.trans (hbx.mono hB2.size)
    (try clear hP_c0); (try clear hP_f0)
    (try clear hP_c1); (try clear hP_f1)
    (try clear hP_c2); (try clear hP_f2)
    (try clear hP_lt)
    have hP_lt := hP.lt; (try simp only [World.size_alloc] at hP_lt)
    have hP_c0 := hP.cell 0; have hP_f0 := hP.frozen 0
    have hP_c1 := hP.cell 1; have hP_f1 := hP.frozen 1
    have hP_c2 := hP.cell 2; have hP_f2 := hP.frozen 2
    simp only [List.getElem?_toArray, List.getElem?_cons_zero, List.getElem?_cons_succ] at hP_c0 hP_c1 hP_c2
    (try clear hW_c0); (try clear hW_f0)
    (try clear hW_c1); (try clear hW_f1)
    (try clear hW_c2); (try clear hW_f2)
    (try clear hW_c3); (try clear hW_f3)
    (try clear hW_c4); (try clear hW_f4)
    (try clear hW_c5); (try clear hW_f5)
    (try clear hW_lt)
    have hW_lt := hW.lt; (try simp only [World.size_alloc] at hW_lt)
    have hW_c0 := hW.cell 0; have hW_f0 := hW.frozen 0
    have hW_c1 := hW.cell 1; have hW_f1 := hW.frozen 1
    have hW_c2 := hW.cell 2; have hW_f2 := hW.frozen 2
    have hW_c3 := hW.cell 3; have hW_f3 := hW.frozen 3
    have hW_c4 := hW.cell 4; have hW_f4 := hW.frozen 4
    have hW_c5 := hW.cell 5; have hW_f5 := hW.frozen 5
    simp only [List.getElem?_toArray, List.getElem?_cons_zero, List.getElem?_cons_succ] at hW_c0 hW_c1 hW_c2 hW_c3 hW_c4 hW_c5
    clear hbx hb2
    go_wp2_with fail
    refine (srp_bad ro co A n c xs y _ hX hn4 hnc' hc' HNO.out).mono ?_
    rintro x w3 ⟨rfl, hb3⟩
    (try clear hP_c0); (try clear hP_f0)
    (try clear hP_c1); (try clear hP_f1)
    (try clear hP_c2); (try clear hP_f2)
    (try clear hP_lt)
    (try clear hW_c0); (try clear hW_f0)
    (try clear hW_c1); (try clear hW_f1)
    (try clear hW_c2); (try clear hW_f2)
    (try clear hW_c3); (try clear hW_f3)
    (try clear hW_c4); (try clear hW_f4)
    (try clear hW_c5); (try clear hW_f5)
    (try clear hW_lt)
    clear hP hW hX
    replace hO := hO.below hb3 (by first | omega | exact hO.lt | (simp; done) | (simp; omega))
    have hB3 := hB2'.trans (hb3.mono hB2'.size)
    have hs3 : w2.heap.size + 1 ≤ w3.heap.size := by have := hb3.size; simpa using this
    have hbx : Below w3.heap.size w3 (w3.alloc (.cells #[.int .i64 0, .int .i64 0, .slice none 0 0] 25)) := (by repeat (first | exact Below.refl _ _ | assumption | refine Below.setCell ?_ (by first | omega | (simp; done) | (simp; omega)) _ | refine Below.alloc ?_ (by first | omega | (simp; done) | (simp; omega)) _ | refine Below.drew ?_ | refine Below.drewN' ?_ _ | refine Below.trans ?_ (Below.mono (by assumption) (by first | omega | (simp; done) | (simp; omega)))))
    have hQ := Bk.new w3 25 #[.int .i64 0, .int .i64 0, .slice none 0 0]
    replace hO := hO.below hbx hO.lt
    have hB3' := hB3.trans (hbx.mono hB3.size)
    (try clear hO_c0); (try clear hO_f0)
    (try clear hO_c1); (try clear hO_f1)
    (try clear hO_c2); (try clear hO_f2)
    (try clear hO_lt)
    have hO_lt := hO.lt; (try simp only [World.size_alloc] at hO_lt)
    have hO_c0 := hO.cell 0; have hO_f0 := hO.frozen 0
    have hO_c1 := hO.cell 1; have hO_f1 := hO.frozen 1
    have hO_c2 := hO.cell 2; have hO_f2 := hO.frozen 2
    simp only [List.getElem?_toArray, List.getElem?_cons_zero, List.getElem?_cons_succ] at hO_c0 hO_c1 hO_c2
    (try clear hQ_c0); (try clear hQ_f0)
    (try clear hQ_c1); (try clear hQ_f1)
    (try clear hQ_c2); (try clear hQ_f2)
    (try clear hQ_lt)
    have hQ_lt := hQ.lt; (try simp only [World.size_alloc] at hQ_lt)
    have hQ_c0 := hQ.cell 0; have hQ_f0 := hQ.frozen 0
    have hQ_c1 := hQ.cell 1; have hQ_f1 := hQ.frozen 1
    have hQ_c2 := hQ.cell 2; have hQ_f2 := hQ.frozen 2
    simp only [List.getElem?_toArray, List.getElem?_cons_zero, List.getElem?_cons_succ] at hQ_c0 hQ_c1 hQ_c2
    clear hb3 hbx
    go_wp2_with fail
    refine (sameRg_same _ _ _ _ 0 _ _ _ [] _ Pks.none_ Pks.none_ (Nat.le_refl _) (by omega)).mono ?_
    rintro x w5 ⟨rfl, hb5⟩
    replace hO := hO.below hb5 (by first | omega | exact hO.lt | (simp; done) | (simp; omega))
    (try clear hO_c0); (try clear hO_f0)
    (try clear hO_c1); (try clear hO_f1)
    (try clear hO_c2); (try clear hO_f2)
    (try clear hO_lt)
    have hO_lt := hO.lt; (try simp only [World.size_alloc] at hO_lt)
    have hO_c0 := hO.cell 0; have hO_f0 := hO.frozen 0
    have hO_c1 := hO.cell 1; have hO_f1 := hO.frozen 1
    have hO_c2 := hO.cell 2; have hO_f2 := hO.frozen 2
    simp only [List.getElem?_toArray, List.getElem?_cons_zero, List.getElem?_cons_succ] at hO_c0 hO_c1 hO_c2
    replace hQ := hQ.below hb5 (by first | omega | exact hQ.lt | (simp; done) | (simp; omega))
    (try clear hQ_c0); (try clear hQ_f0)
    (try clear hQ_c1); (try clear hQ_f1)
    (try clear hQ_c2); (try clear hQ_f2)
    (try clear hQ_lt)
    have hQ_lt := hQ.lt; (try simp only [World.size_alloc] at hQ_lt)
    have hQ_c0 := hQ.cell 0; have hQ_f0 := hQ.frozen 0
    have hQ_c1 := hQ.cell 1; have hQ_f1 := hQ.frozen 1
    have hQ_c2 := hQ.cell 2; have hQ_f2 := hQ.frozen 2
    simp only [List.getElem?_toArray, List.getElem?_cons_zero, List.getElem?_cons_succ] at hQ_c0 hQ_c1 hQ_c2
    have hB5 := hB3'.trans (hb5.mono hB3'.size)
    clear hb5
    go_wp2_with fail
    refine (sameRg_same _ _ _ _ 0 _ _ _ [] _ Pks.none_ Pks.none_ (Nat.le_refl _) (by omega)).mono ?_
    rintro x w6 ⟨rfl, hb6⟩
    have hB6 := hB5.trans (hb6.mono hB5.size)
    go_wp2
    go_ret
    exact ⟨rfl, hB6⟩
  obtain ⟨r, rfl⟩ := Int.eq_ofNat_of_zero_le (show 0 ≤ ro by have := hin.1.1; omega)
  obtain ⟨q, rfl⟩ := Int.eq_ofNat_of_zero_le (show 0 ≤ co by have := hin.1.2.2.1; omega)
  have hr1 : 1 ≤ r := by have := hin.1.1; omega
  have hr8 : r ≤ 8 := by have := hin.1.2.1; omega
  have hq : q + 1 ≤ 999999 := by have := hin.2.2; omega
  have HNQ := Lib.hid (show n = min r q by have := hin.1.2.2.2.2.2; rw [hX.len] at this; omega)
  have HMQ := Lib.hid (show (putL (r : Int) xs y).length = min r (q + 1) by have := putL_len (p := y) hin.1; omega)
  have HOK := Lib.hid hin.1
  have HOK2 := Lib.hid (put_ok hin)
  have HIN := Lib.hid hin
  have HL := Lib.hid hX.len
  clear hin
  go_wp2_with fail
  refine (irp_any r q A n c xs y _ hX hnc' hc' HOK.out).mono ?_
  rintro x w2 ⟨hg2, -⟩
  obtain ⟨v2, rfl, ⟨A2, c2, rfl, h2a, h2b, hY, -⟩, hb2⟩ := hg2 HIN.out
  obtain ⟨m, hm⟩ : ∃ m, (putL (r : Int) xs y).length = m := ⟨_, rfl⟩
  have HM := Lib.hid hm
  rw [hm] at hY h2a
  rw [hm]
  have HMR := Lib.hid (show m = min r (q + 1) by rw [← hm]; exact HMQ.out)
  clear hm hg2
  have hm8 : m ≤ 8 := by have := HMR.out; omega
  have hm1 : 1 ≤ m := by have := HMR.out; omega
  have hmn : m ≤ n + 1 := by have := HMR.out; have := HNQ.out; omega
  have hmq : m ≤ q + 1 := by have := HMR.out; omega
  have hnq : n ≤ q := by have := HNQ.out; omega
  replace hX := hX.step hb2
  replace hP := hP.below hb2 (by first | omega | exact hP.lt | (simp; done) | (simp; omega))
  replace hW := hW.below hb2 (by first | omega | exact hW.lt | (simp; done) | (simp; omega))
  have hB2 := hB1.trans (hb2.mono hB1.size)
  have hs2 : w1.heap.size + 1 + 1 ≤ w2.heap.size := by have := hb2.size; simpa using this
  clear hb2
  have hbx : Below w2.heap.size w2 (w2.alloc (.cells #[.int .i64 r, .int .i64 ((q : Int) + 1), .slice A2 m c2] 25)) := (by repeat (first | exact Below.refl _ _ | assumption | refine Below.setCell ?_ (by first | omega | (simp; done) | (simp; omega)) _ | refine Below.alloc ?_ (by first | omega | (simp; done) | (simp; omega)) _ | refine Below.drew ?_ | refine Below.drewN' ?_ _ | refine Below.trans ?_ (Below.mono (by assumption) (by first | omega | (simp; done) | (simp; omega)))))
  have hO := Bk.new w2 25 #[.int .i64 r, .int .i64 ((q : Int) + 1), .slice A2 m c2]
  have hP2 := hP.below hbx hP.lt
  have hW2 := hW.below hbx hW.lt
  replace hX := hX.step hbx
  replace hY := Pks.step hY hbx
  have hB2' := hB2.trans (hbx.mono hB2.size)
  (try clear hP_c0); (try clear hP_f0)
  (try clear hP_c1); (try clear hP_f1)
  (try clear hP_c2); (try clear hP_f2)
  (try clear hP_lt)
  have hP_lt := hP.lt; (try simp only [World.size_alloc] at hP_lt)
  have hP_c0 := hP.cell 0; have hP_f0 := hP.frozen 0
  have hP_c1 := hP.cell 1; have hP_f1 := hP.frozen 1
  have hP_c2 := hP.cell 2; have hP_f2 := hP.frozen 2
  simp only [List.getElem?_toArray, List.getElem?_cons_zero, List.getElem?_cons_succ] at hP_c0 hP_c1 hP_c2
  (try clear hW_c0); (try clear hW_f0)
  (try clear hW_c1); (try clear hW_f1)
  (try clear hW_c2); (try clear hW_f2)
  (try clear hW_c3); (try clear hW_f3)
  (try clear hW_c4); (try clear hW_f4)
  (try clear hW_c5); (try clear hW_f5)
  (try clear hW_lt)
  have hW_lt := hW.lt; (try simp only [World.size_alloc] at hW_lt)
  have hW_c0 := hW.cell 0; have hW_f0 := hW.frozen 0
  have hW_c1 := hW.cell 1; have hW_f1 := hW.frozen 1
  have hW_c2 := hW.cell 2; have hW_f2 := hW.frozen 2
  have hW_c3 := hW.cell 3; have hW_f3 := hW.frozen 3
  have hW_c4 := hW.cell 4; have hW_f4 := hW.frozen 4
  have hW_c5 := hW.cell 5; have hW_f5 := hW.frozen 5
  simp only [List.getElem?_toArray, List.getElem?_cons_zero, List.getElem?_cons_succ] at hW_c0 hW_c1 hW_c2 hW_c3 hW_c4 hW_c5
  clear hbx
  go_wp2_with fail
  refine (srp_any r q A n c xs y _ hX hnc' hc' HOK.out).mono ?_
  rintro x w3 ⟨hg3, -⟩
  obtain ⟨v3, rfl, ⟨A3, c3, rfl, h3a, h3b, hY3, -⟩, hb3⟩ := hg3 HIN.out
  rw [HM.out] at hY3
  rw [HM.out]
  clear hg3 h3a h3b
  replace hX := hX.step hb3
  replace hY := hY.step hb3
  (try clear hP_c0); (try clear hP_f0)
  (try clear hP_c1); (try clear hP_f1)
  (try clear hP_c2); (try clear hP_f2)
  (try clear hP_lt)
  (try clear hW_c0); (try clear hW_f0)
  (try clear hW_c1); (try clear hW_f1)
  (try clear hW_c2); (try clear hW_f2)
  (try clear hW_c3); (try clear hW_f3)
  (try clear hW_c4); (try clear hW_f4)
  (try clear hW_c5); (try clear hW_f5)
  (try clear hW_lt)
  clear hP hW
  replace hP2 := hP2.below hb3 (by first | omega | exact hP2.lt | (simp; done) | (simp; omega))
  replace hW2 := hW2.below hb3 (by first | omega | exact hW2.lt | (simp; done) | (simp; omega))
  replace hO := hO.below hb3 (by first | omega | exact hO.lt | (simp; done) | (simp; omega))
  have hB3 := hB2'.trans (hb3.mono hB2'.size)
  have hs3 : w2.heap.size + 1 ≤ w3.heap.size := by have := hb3.size; simpa using this
  clear hb3 hB2'
  have hbx : Below w3.heap.size w3 (w3.alloc (.cells #[.int .i64 r, .int .i64 ((q : Int) + 1), .slice A3 m c3] 25)) := (by repeat (first | exact Below.refl _ _ | assumption | refine Below.setCell ?_ (by first | omega | (simp; done) | (simp; omega)) _ | refine Below.alloc ?_ (by first | omega | (simp; done) | (simp; omega)) _ | refine Below.drew ?_ | refine Below.drewN' ?_ _ | refine Below.trans ?_ (Below.mono (by assumption) (by first | omega | (simp; done) | (simp; omega)))))
  have hQ := Bk.new w3 25 #[.int .i64 r, .int .i64 ((q : Int) + 1), .slice A3 m c3]
  replace hX := hX.step hbx
  replace hY := hY.step hbx
  replace hY3 := Pks.step hY3 hbx
  replace hP2 := hP2.below hbx hP2.lt
  replace hW2 := hW2.below hbx hW2.lt
  replace hO := hO.below hbx hO.lt
  have hB3' := hB3.trans (hbx.mono hB3.size)
  (try clear hP2_c0); (try clear hP2_f0)
  (try clear hP2_c1); (try clear hP2_f1)
  (try clear hP2_c2); (try clear hP2_f2)
  (try clear hP2_lt)
  have hP2_lt := hP2.lt; (try simp only [World.size_alloc] at hP2_lt)
  have hP2_c0 := hP2.cell 0; have hP2_f0 := hP2.frozen 0
  have hP2_c1 := hP2.cell 1; have hP2_f1 := hP2.frozen 1
  have hP2_c2 := hP2.cell 2; have hP2_f2 := hP2.frozen 2
  simp only [List.getElem?_toArray, List.getElem?_cons_zero, List.getElem?_cons_succ] at hP2_c0 hP2_c1 hP2_c2
  (try clear hW2_c0); (try clear hW2_f0)
  (try clear hW2_c1); (try clear hW2_f1)
  (try clear hW2_c2); (try clear hW2_f2)
  (try clear hW2_c3); (try clear hW2_f3)
  (try clear hW2_c4); (try clear hW2_f4)
  (try clear hW2_c5); (try clear hW2_f5)
  (try clear hW2_lt)
  have hW2_lt := hW2.lt; (try simp only [World.size_alloc] at hW2_lt)
  have hW2_c0 := hW2.cell 0; have hW2_f0 := hW2.frozen 0
  have hW2_c1 := hW2.cell 1; have hW2_f1 := hW2.frozen 1
  have hW2_c2 := hW2.cell 2; have hW2_f2 := hW2.frozen 2
  have hW2_c3 := hW2.cell 3; have hW2_f3 := hW2.frozen 3
  have hW2_c4 := hW2.cell 4; have hW2_f4 := hW2.frozen 4
  have hW2_c5 := hW2.cell 5; have hW2_f5 := hW2.frozen 5
  simp only [List.getElem?_toArray, List.getElem?_cons_zero, List.getElem?_cons_succ] at hW2_c0 hW2_c1 hW2_c2 hW2_c3 hW2_c4 hW2_c5
  (try clear hO_c0); (try clear hO_f0)
  (try clear hO_c1); (try clear hO_f1)
  (try clear hO_c2); (try clear hO_f2)
  (try clear hO_lt)
  have hO_lt := hO.lt; (try simp only [World.size_alloc] at hO_lt)
  have hO_c0 := hO.cell 0; have hO_f0 := hO.frozen 0
  have hO_c1 := hO.cell 1; have hO_f1 := hO.frozen 1
  have hO_c2 := hO.cell 2; have hO_f2 := hO.frozen 2
  simp only [List.getElem?_toArray, List.getElem?_cons_zero, List.getElem?_cons_succ] at hO_c0 hO_c1 hO_c2
  (try clear hQ_c0); (try clear hQ_f0)
  (try clear hQ_c1); (try clear hQ_f1)
  (try clear hQ_c2); (try clear hQ_f2)
  (try clear hQ_lt)
  have hQ_lt := hQ.lt; (try simp only [World.size_alloc] at hQ_lt)
  have hQ_c0 := hQ.cell 0; have hQ_f0 := hQ.frozen 0
  have hQ_c1 := hQ.cell 1; have hQ_f1 := hQ.frozen 1
  have hQ_c2 := hQ.cell 2; have hQ_f2 := hQ.frozen 2
  simp only [List.getElem?_toArray, List.getElem?_cons_zero, List.getElem?_cons_succ] at hQ_c0 hQ_c1 hQ_c2
  clear hbx
  go_wp2_with fail
  refine (sameRg_same _ _ _ _ _ _ _ _ _ _ hY hY3 (Nat.le_refl _) (by omega)).mono ?_
  rintro x w5 ⟨rfl, hb5⟩
  replace hX := hX.step hb5
  replace hY := hY.step hb5
  replace hP2 := hP2.below hb5 (by first | omega | exact hP2.lt | (simp; done) | (simp; omega))
  (try clear hP2_c0); (try clear hP2_f0)
  (try clear hP2_c1); (try clear hP2_f1)
  (try clear hP2_c2); (try clear hP2_f2)
  (try clear hP2_lt)
  have hP2_lt := hP2.lt; (try simp only [World.size_alloc] at hP2_lt)
  have hP2_c0 := hP2.cell 0; have hP2_f0 := hP2.frozen 0
  have hP2_c1 := hP2.cell 1; have hP2_f1 := hP2.frozen 1
  have hP2_c2 := hP2.cell 2; have hP2_f2 := hP2.frozen 2
  simp only [List.getElem?_toArray, List.getElem?_cons_zero, List.getElem?_cons_succ] at hP2_c0 hP2_c1 hP2_c2
  replace hW2 := hW2.below hb5 (by first | omega | exact hW2.lt | (simp; done) | (simp; omega))
  (try clear hW2_c0); (try clear hW2_f0)
  (try clear hW2_c1); (try clear hW2_f1)
  (try clear hW2_c2); (try clear hW2_f2)
  (try clear hW2_c3); (try clear hW2_f3)
  (try clear hW2_c4); (try clear hW2_f4)
  (try clear hW2_c5); (try clear hW2_f5)
  (try clear hW2_lt)
  have hW2_lt := hW2.lt; (try simp only [World.size_alloc] at hW2_lt)
  have hW2_c0 := hW2.cell 0; have hW2_f0 := hW2.frozen 0
  have hW2_c1 := hW2.cell 1; have hW2_f1 := hW2.frozen 1
  have hW2_c2 := hW2.cell 2; have hW2_f2 := hW2.frozen 2
  have hW2_c3 := hW2.cell 3; have hW2_f3 := hW2.frozen 3
  have hW2_c4 := hW2.cell 4; have hW2_f4 := hW2.frozen 4
  have hW2_c5 := hW2.cell 5; have hW2_f5 := hW2.frozen 5
  simp only [List.getElem?_toArray, List.getElem?_cons_zero, List.getElem?_cons_succ] at hW2_c0 hW2_c1 hW2_c2 hW2_c3 hW2_c4 hW2_c5
  replace hO := hO.below hb5 (by first | omega | exact hO.lt | (simp; done) | (simp; omega))
  (try clear hO_c0); (try clear hO_f0)
  (try clear hO_c1); (try clear hO_f1)
  (try clear hO_c2); (try clear hO_f2)
  (try clear hO_lt)
  have hO_lt := hO.lt; (try simp only [World.size_alloc] at hO_lt)
  have hO_c0 := hO.cell 0; have hO_f0 := hO.frozen 0
  have hO_c1 := hO.cell 1; have hO_f1 := hO.frozen 1
  have hO_c2 := hO.cell 2; have hO_f2 := hO.frozen 2
  simp only [List.getElem?_toArray, List.getElem?_cons_zero, List.getElem?_cons_succ] at hO_c0 hO_c1 hO_c2
  have hB5 := hB3'.trans (hb5.mono hB3'.size)
  have hs5 : w3.heap.size + 1 ≤ w5.heap.size := by have := hb5.size; simpa using this
  (try clear hQ_c0); (try clear hQ_f0)
  (try clear hQ_c1); (try clear hQ_f1)
  (try clear hQ_c2); (try clear hQ_f2)
  (try clear hQ_lt)
  clear hb5 hY3 hQ hB3 hB3' hB2 hB1
  go_wp2_with fail
  refine (iold_any r ((q : Int) + 1) A2 m c2 (putL (r : Int) xs y) _ hY (by omega) HOK2.out).mono ?_
  rintro x w6 ⟨rfl, hb6⟩
  replace hX := hX.step hb6
  replace hY := hY.step hb6
  replace hP2 := hP2.below hb6 (by first | omega | exact hP2.lt | (simp; done) | (simp; omega))
  (try clear hP2_c0); (try clear hP2_f0)
  (try clear hP2_c1); (try clear hP2_f1)
  (try clear hP2_c2); (try clear hP2_f2)
  (try clear hP2_lt)
  have hP2_lt := hP2.lt; (try simp only [World.size_alloc] at hP2_lt)
  have hP2_c0 := hP2.cell 0; have hP2_f0 := hP2.frozen 0
  have hP2_c1 := hP2.cell 1; have hP2_f1 := hP2.frozen 1
  have hP2_c2 := hP2.cell 2; have hP2_f2 := hP2.frozen 2
  simp only [List.getElem?_toArray, List.getElem?_cons_zero, List.getElem?_cons_succ] at hP2_c0 hP2_c1 hP2_c2
  replace hO := hO.below hb6 (by first | omega | exact hO.lt | (simp; done) | (simp; omega))
  (try clear hO_c0); (try clear hO_f0)
  (try clear hO_c1); (try clear hO_f1)
  (try clear hO_c2); (try clear hO_f2)
  (try clear hO_lt)
  have hO_lt := hO.lt; (try simp only [World.size_alloc] at hO_lt)
  have hO_c0 := hO.cell 0; have hO_f0 := hO.frozen 0
  have hO_c1 := hO.cell 1; have hO_f1 := hO.frozen 1
  have hO_c2 := hO.cell 2; have hO_f2 := hO.frozen 2
  simp only [List.getElem?_toArray, List.getElem?_cons_zero, List.getElem?_cons_succ] at hO_c0 hO_c1 hO_c2
  have hB6 := hB5.trans (hb6.mono hB5.size)
  have hs6 : w3.heap.size + 1 ≤ w6.heap.size := by have := hb6.size; omega
  (try clear hW2_c0); (try clear hW2_f0)
  (try clear hW2_c1); (try clear hW2_f1)
  (try clear hW2_c2); (try clear hW2_f2)
  (try clear hW2_c3); (try clear hW2_f3)
  (try clear hW2_c4); (try clear hW2_f4)
  (try clear hW2_c5); (try clear hW2_f5)
  (try clear hW2_lt)
  clear hb6 hW2 hB5
  go_wp2_with fail
  go_loopw [9] (fun i wr => ∃ k : Nat, q + 1 - m ≤ k ∧ k ≤ q ∧ i = .int .i64 k ∧ Below w6.heap.size w6 wr) (fun i _ => q - (intOf i).toNat)
  case atStart => exact ⟨q + 1 - m, by omega, by omega, by congr 1; omega, Below.refl _ _⟩
  case round =>
    obtain ⟨k, hk0, hk1, rfl, hbr⟩ := hrel
    have hX2 := (hX.below hbr).more hbr.size
    have hY2 := (hY.below hbr).more hbr.size
    (try clear hP2_c0); (try clear hP2_f0)
    (try clear hP2_c1); (try clear hP2_f1)
    (try clear hP2_c2); (try clear hP2_f2)
    (try clear hP2_lt)
    (try clear hO_c0); (try clear hO_f0)
    (try clear hO_c1); (try clear hO_f1)
    (try clear hO_c2); (try clear hO_f2)
    (try clear hO_lt)
    replace hP2 := hP2.below hbr (by first | omega | exact hP2.lt | (simp; done) | (simp; omega))
    (try clear hP2_c0); (try clear hP2_f0)
    (try clear hP2_c1); (try clear hP2_f1)
    (try clear hP2_c2); (try clear hP2_f2)
    (try clear hP2_lt)
    have hP2_lt := hP2.lt; (try simp only [World.size_alloc] at hP2_lt)
    have hP2_c0 := hP2.cell 0; have hP2_f0 := hP2.frozen 0
    have hP2_c1 := hP2.cell 1; have hP2_f1 := hP2.frozen 1
    have hP2_c2 := hP2.cell 2; have hP2_f2 := hP2.frozen 2
    simp only [List.getElem?_toArray, List.getElem?_cons_zero, List.getElem?_cons_succ] at hP2_c0 hP2_c1 hP2_c2
    replace hO := hO.below hbr (by first | omega | exact hO.lt | (simp; done) | (simp; omega))
    (try clear hO_c0); (try clear hO_f0)
    (try clear hO_c1); (try clear hO_f1)
    (try clear hO_c2); (try clear hO_f2)
    (try clear hO_lt)
    have hO_lt := hO.lt; (try simp only [World.size_alloc] at hO_lt)
    have hO_c0 := hO.cell 0; have hO_f0 := hO.frozen 0
    have hO_c1 := hO.cell 1; have hO_f1 := hO.frozen 1
    have hO_c2 := hO.cell 2; have hO_f2 := hO.frozen 2
    simp only [List.getElem?_toArray, List.getElem?_cons_zero, List.getElem?_cons_succ] at hO_c0 hO_c1 hO_c2
    have hsr := hbr.size
    by_cases hlt : k < q
    · have e0 : decide (k < q) = true := by simpa using hlt
      have e0' : decide ((k : Int) < (q : Int)) = true := by simpa using hlt
      obtain ⟨z, hz⟩ : ∃ z, xs[k - (q - n)]? = some z := ⟨_, List.getElem?_eq_getElem (by rw [HL.out]; omega)⟩
      have hz2 : (putL (r : Int) xs y)[k - (q + 1 - m)]? = some z := by
        rw [putL_at HL.out HM.out hr1 (by omega), List.getElem?_append_left (by rw [HL.out]; omega), show n + 1 - m + (k - (q + 1 - m)) = k - (q - n) by omega]
        exact hz
      go_wp2_with fail
      refine (iget_any r q k A n c xs z wr hX2 HOK.out (by omega) (by omega) hz).mono ?_
      rintro x w7 ⟨rfl, hb7⟩
      have hbx : Below w7.heap.size w7 (w7.alloc (.cells #[.int .i64 z.wi, .int .i64 z.ti, .int .i64 z.la, .int .i64 z.si, .bool z.ky, .bool z.en] 27)) := (by repeat (first | exact Below.refl _ _ | assumption | refine Below.setCell ?_ (by first | omega | (simp; done) | (simp; omega)) _ | refine Below.alloc ?_ (by first | omega | (simp; done) | (simp; omega)) _ | refine Below.drew ?_ | refine Below.drewN' ?_ _ | refine Below.trans ?_ (Below.mono (by assumption) (by first | omega | (simp; done) | (simp; omega)))))
      have hT := Bk.new w7 27 #[.int .i64 z.wi, .int .i64 z.ti, .int .i64 z.la, .int .i64 z.si, .bool z.ky, .bool z.en]
      have hb8 := hb7.trans (hbx.mono hb7.size)
      replace hY2 := hY2.step hb8
      replace hP2 := hP2.below hb8 (by first | omega | exact hP2.lt | (simp; done) | (simp; omega))
      (try clear hP2_c0); (try clear hP2_f0)
      (try clear hP2_c1); (try clear hP2_f1)
      (try clear hP2_c2); (try clear hP2_f2)
      (try clear hP2_lt)
      have hP2_lt := hP2.lt; (try simp only [World.size_alloc] at hP2_lt)
      have hP2_c0 := hP2.cell 0; have hP2_f0 := hP2.frozen 0
      have hP2_c1 := hP2.cell 1; have hP2_f1 := hP2.frozen 1
      have hP2_c2 := hP2.cell 2; have hP2_f2 := hP2.frozen 2
      simp only [List.getElem?_toArray, List.getElem?_cons_zero, List.getElem?_cons_succ] at hP2_c0 hP2_c1 hP2_c2
      replace hO := hO.below hb8 (by first | omega | exact hO.lt | (simp; done) | (simp; omega))
      (try clear hO_c0); (try clear hO_f0)
      (try clear hO_c1); (try clear hO_f1)
      (try clear hO_c2); (try clear hO_f2)
      (try clear hO_lt)
      have hO_lt := hO.lt; (try simp only [World.size_alloc] at hO_lt)
      have hO_c0 := hO.cell 0; have hO_f0 := hO.frozen 0
      have hO_c1 := hO.cell 1; have hO_f1 := hO.frozen 1
      have hO_c2 := hO.cell 2; have hO_f2 := hO.frozen 2
      simp only [List.getElem?_toArray, List.getElem?_cons_zero, List.getElem?_cons_succ] at hO_c0 hO_c1 hO_c2
      have hB8 := hbr.trans (hb8.mono hbr.size)
      have hs8 : wr.heap.size ≤ w7.heap.size := hb7.size
      clear hbx hb8 hb7 hX2
      go_wp2_with fail
      refine (by simpa using iget_any r (q + 1) k A2 m c2 (putL (r : Int) xs y) z _ hY2 (by simpa using HOK2.out) (by omega) (by omega) hz2 : Calls Try.prog 12 #[.agg #[.int .i64 r, .int .i64 ((q : Int) + 1), .slice A2 m c2], .int .i64 k] (w7.alloc (.cells #[.int .i64 z.wi, .int .i64 z.ti, .int .i64 z.la, .int .i64 z.si, .bool z.ky, .bool z.en] 27)) fun e w' => e = .returned (.tuple #[.agg #[.int .i64 z.wi, .int .i64 z.ti, .int .i64 z.la, .int .i64 z.si, .bool z.ky, .bool z.en], .bool true]) ∧ Below (w7.alloc (.cells #[.int .i64 z.wi, .int .i64 z.ti, .int .i64 z.la, .int .i64 z.si, .bool z.ky, .bool z.en] 27)).heap.size (w7.alloc (.cells #[.int .i64 z.wi, .int .i64 z.ti, .int .i64 z.la, .int .i64 z.si, .bool z.ky, .bool z.en] 27)) w').mono ?_
      rintro x w9 ⟨rfl, hb9⟩
      have hbx : Below w9.heap.size w9 (w9.alloc (.cells #[.int .i64 z.wi, .int .i64 z.ti, .int .i64 z.la, .int .i64 z.si, .bool z.ky, .bool z.en] 27)) := (by repeat (first | exact Below.refl _ _ | assumption | refine Below.setCell ?_ (by first | omega | (simp; done) | (simp; omega)) _ | refine Below.alloc ?_ (by first | omega | (simp; done) | (simp; omega)) _ | refine Below.drew ?_ | refine Below.drewN' ?_ _ | refine Below.trans ?_ (Below.mono (by assumption) (by first | omega | (simp; done) | (simp; omega)))))
      have hU := Bk.new w9 27 #[.int .i64 z.wi, .int .i64 z.ti, .int .i64 z.la, .int .i64 z.si, .bool z.ky, .bool z.en]
      have hb10 := hb9.trans (hbx.mono hb9.size)
      replace hT := hT.below hb10 (by first | omega | exact hT.lt | (simp; done) | (simp; omega))
      have hB10 := hB8.trans (hb10.mono hB8.size)
      (try clear hP2_c0); (try clear hP2_f0)
      (try clear hP2_c1); (try clear hP2_f1)
      (try clear hP2_c2); (try clear hP2_f2)
      (try clear hP2_lt)
      (try clear hO_c0); (try clear hO_f0)
      (try clear hO_c1); (try clear hO_f1)
      (try clear hO_c2); (try clear hO_f2)
      (try clear hO_lt)
      (try clear hT_c0); (try clear hT_f0)
      (try clear hT_c1); (try clear hT_f1)
      (try clear hT_c2); (try clear hT_f2)
      (try clear hT_c3); (try clear hT_f3)
      (try clear hT_c4); (try clear hT_f4)
      (try clear hT_c5); (try clear hT_f5)
      (try clear hT_lt)
      have hT_lt := hT.lt; (try simp only [World.size_alloc] at hT_lt)
      have hT_c0 := hT.cell 0; have hT_f0 := hT.frozen 0
      have hT_c1 := hT.cell 1; have hT_f1 := hT.frozen 1
      have hT_c2 := hT.cell 2; have hT_f2 := hT.frozen 2
      have hT_c3 := hT.cell 3; have hT_f3 := hT.frozen 3
      have hT_c4 := hT.cell 4; have hT_f4 := hT.frozen 4
      have hT_c5 := hT.cell 5; have hT_f5 := hT.frozen 5
      simp only [List.getElem?_toArray, List.getElem?_cons_zero, List.getElem?_cons_succ] at hT_c0 hT_c1 hT_c2 hT_c3 hT_c4 hT_c5
      (try clear hU_c0); (try clear hU_f0)
      (try clear hU_c1); (try clear hU_f1)
      (try clear hU_c2); (try clear hU_f2)
      (try clear hU_c3); (try clear hU_f3)
      (try clear hU_c4); (try clear hU_f4)
      (try clear hU_c5); (try clear hU_f5)
      (try clear hU_lt)
      have hU_lt := hU.lt; (try simp only [World.size_alloc] at hU_lt)
      have hU_c0 := hU.cell 0; have hU_f0 := hU.frozen 0
      have hU_c1 := hU.cell 1; have hU_f1 := hU.frozen 1
      have hU_c2 := hU.cell 2; have hU_f2 := hU.frozen 2
      have hU_c3 := hU.cell 3; have hU_f3 := hU.frozen 3
      have hU_c4 := hU.cell 4; have hU_f4 := hU.frozen 4
      have hU_c5 := hU.cell 5; have hU_f5 := hU.frozen 5
      simp only [List.getElem?_toArray, List.getElem?_cons_zero, List.getElem?_cons_succ] at hU_c0 hU_c1 hU_c2 hU_c3 hU_c4 hU_c5
      clear hbx hb10 hb9 hY2
      go_wp2_with fail
      go_roundw
      case rel => exact ⟨k + 1, by omega, by omega, by go_num, hB10⟩
      case measure => simp [intOf]; omega
    · have e0 : decide (k < q) = false := by simpa using hlt
      have e0' : decide ((k : Int) < (q : Int)) = false := by simpa using hlt
      go_wp2
      go_ret
      exact ⟨rfl, hB6.trans (hbr.mono hB6.size)⟩

/-! ### THE ROW's STEP: WRITTEN OUT: LEAVE IT -/
set_option maxRecDepth 100000 in
theorem lifted (os : Os) (started : os.Started) (H : Type) (enc : TypeId × Value → H) :
    ReturnsInHanded {} Try.checked os 5 .any (Rows.fnRingPutKeepSpec.pre6 enc Try.prog Try.f5 Rows.fnRingPutKeepRow.domain false) (Rows.fnRingPutKeepSpec.post enc Try.prog Try.f5 false true false false) := by
  refine returnsInHanded_of_change (C := Try.checked) own started (by kernel_rfl) Try.func5
    (ChangeSpec.witness6 (enc := enc) (C := Try.checked) false ⟨#[], #[.slice none 0 0], []⟩ 8 (by kernel_rfl) (by kernel_rfl) (by kernel_rfl) (by kernel_rfl)) ?_
  intro W base args ds gs before hval0 hW hcnd _
  have hval : ∀ (j : Nat) t v, Try.f5.params[j]? = some t → args[j]? = some v → Value.okWide Try.prog W .any base t v := hval0
  have hW' := hW
  obtain ⟨p, q, hA0, hV, rfl, hfz, hnd⟩ := hW
  have hA : DataW.TrodAll enc Try.prog W 0 (fun _ => true) true Try.f5.params.toList args.toList ds p := hA0
  rw [Try.params5] at hA hval
  obtain ⟨v0, vs0, d0, ds0, p0, q0, hargs, rfl, rfl, h0, r0⟩ := trodAll_cons hA
  obtain ⟨rfl, rfl, rfl⟩ := trodAll_nil r0
  obtain rfl : args = #[v0] := by cases args; simp_all
  obtain ⟨rfl, rfl⟩ := trodVars_none hV
  obtain ⟨a0, len0, cap0, rfl⟩ := okWide_slice Try.underlying22 (hval 0 22 v0 rfl rfl)
  have k0 := h0
  have lt0 : ∀ x ∈ p0, x.block < W.heap.size := by obtain ⟨m, hm⟩ := k0; exact DataW.trod_lt m _ _ _ hm
  obtain ⟨z0, w0⟩ : ∃ zs, IsRow .u8 W a0 len0 cap0 zs := by
    obtain ⟨fuel, hf⟩ := h0
    rcases open_ints Try.underlying22 Try.underlying5 (by kernel_rfl) hf with ⟨hcs, _⟩ | ⟨x, l, c, zs, hcs, _, hl, hm, hz, _, hcell, hwz⟩
    · simp [Value.cells] at hcs
      obtain ⟨rfl, rfl, rfl⟩ := hcs
      exact ⟨[], .inl ⟨rfl, rfl, rfl, rfl⟩⟩
    · simp [Value.cells] at hcs
      obtain ⟨rfl, rfl, rfl⟩ := hcs
      exact ⟨zs, .inr ⟨_, rfl, hl, hm, by simpa using hz, hcell, hwz⟩⟩
  clear hA0 hval0
  refine (walk a0 len0 cap0 z0 W w0).mono fun e W' ⟨he, bel⟩ => ?_
  subst he
  exact ⟨_, rfl, _, _, _, [], _, [], hW', trodAll_mk1 (shut_bool Try.underlying4 _), (trodAll_cons_mk (Below.trod laidOut (by kernel_rfl) (of_decide_eq_true (by kernel_rfl)) k0 bel lt0) trodAll_mk0), rfl, bel.frame _, fun h => by cases h⟩

theorem over : Rows.fnRingPutKeepRow.holds Try.pinned (OpenSpec.ofChange Rows.fnRingPutKeepSpec) :=
  OpenClaim.holds_of_wide 5 Try.f5 rfl rfl rfl rfl rfl rfl rfl ⟨rfl, rfl, rfl, rfl, rfl⟩ rfl rfl rfl rfl rfl (by kernel_rfl) Try.func5 (by kernel_rfl)
    (of_decide_eq_true (by kernel_rfl)) (by unfold Func.isWrapper; first | (rw [if_pos (by decide +kernel)]; kernel_rfl) | (rw [if_neg (by decide +kernel)]; exact ⟨rfl, rfl⟩))
    (fun os started H enc _ => lifted os started H enc)

/--  THE STATEMENT  -/
theorem proved : Rows.FnRingPutKeepSaid := over
#print axioms proved
end Go.Proofs.Ytjhppghkhfacaaa.fnRingPutKeep
