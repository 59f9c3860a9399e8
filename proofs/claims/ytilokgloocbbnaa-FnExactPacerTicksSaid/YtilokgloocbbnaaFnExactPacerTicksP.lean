/-
  The statement FnExactPacerTicks: the law returns true for every input, and what was there before the call has not turned.
  No condition beyond the given statement.
-/
import Derived.Test.YtilokgloocbbnaaRows
import Derived.WalkKit
import Derived.ProofKit
import Derived.OpenShut
import Derived.ShutString
import Derived.ChangeOld
import Derived.Below
import Derived.Test.YtilokgloocbbnaaPac
import Derived.Test.YtilokgloocbbnaaPacB
import Derived.Test.YtilokgloocbbnaaPacI
import Derived.Test.YtilokgloocbbnaaPacJ
import Derived.Test.YtilokgloocbbnaaPacK
import Derived.Test.YtilokgloocbbnaaPacL
import Derived.Test.YtilokgloocbbnaaSeqW
import Derived.Test.YtilokgloocbbnaaPacX
import Derived.Test.YtilokgloocbbnaaOpenP
namespace Go.Proofs.Ytilokgloocbbnaa.fnExactPacerTicks
open Go.ChangeShapes Go.WideShapes Go.ChangeAt Go.RowKit
set_option linter.unusedVariables false
set_option linter.unusedSimpArgs false

theorem own : ownKnob Try.prog.godebug = none := by kernel_rfl
theorem laidOut : laidOutB Try.prog = true := by kernel_rfl


/-! ### STEP 1: THE WALK -/
set_option maxHeartbeats 4000000 in
set_option maxRecDepth 100000 in
theorem walk (ea cr : Int) (A : Option Addr) (n c : Nat) (xs : List Wt) (w : World) (hws : Wts w w.heap.size A n xs) (hnc : n ≤ c) (hcm : c ≤ maxLen) :
    Calls Try.prog 11 #[.agg #[.int .i64 ea, .int .i64 cr, .slice A n c]] w fun e w' => e = .returned (.bool true) ∧ Below w.heap.size w w' := by
  by_cases hbig : 1048576 < n
  · have hnm : n ≤ maxLen := by omega
    go_enter Try.func11, Try.ntmps11
    go_wp2_with fail
    refine (szP_no ea cr A n c _ hbig hnm).mono ?_
    rintro x w1 ⟨rfl, hb1⟩
    have hB1 : Below w.heap.size w w1 := (by repeat (first | exact Below.refl _ _ | assumption | refine Below.setCell ?_ (by first | omega | (simp; done) | (simp; omega)) _ | refine Below.alloc ?_ (by first | omega | (simp; done) | (simp; omega)) _ | refine Below.drew ?_ | refine Below.drewN' ?_ _ | refine Below.trans ?_ (Below.mono (by assumption) (by first | omega | (simp; done) | (simp; omega)))))
    go_wp2
    go_ret
    exact ⟨rfl, hB1⟩
  · have hn20 : n ≤ 1048576 := by omega
    have hn21 : n ≤ 2097152 := by omega
    have hn40 : n ≤ 1099511627776 := by omega
    have e0 : decide ((1048576 : Int) - n < 0) = false := by simp; omega
    have hP := Bk.new w 42 #[.int .i64 ea, .int .i64 cr, .slice A n c]
    go_enter Try.func11, Try.ntmps11
    go_wp2_with fail
    refine (szP_ok ea cr A n c _ hn20).mono ?_
    rintro x w1 ⟨rfl, hb1⟩
    have hB1 : Below w.heap.size w w1 := (by repeat (first | exact Below.refl _ _ | assumption | refine Below.setCell ?_ (by first | omega | (simp; done) | (simp; omega)) _ | refine Below.alloc ?_ (by first | omega | (simp; done) | (simp; omega)) _ | refine Below.drew ?_ | refine Below.drewN' ?_ _ | refine Below.trans ?_ (Below.mono (by assumption) (by first | omega | (simp; done) | (simp; omega)))))
    replace hP := hP.below hb1 (by first | omega | exact hP.lt | (simp; done) | (simp; omega))
    (try clear hP_c0); (try clear hP_f0)
    (try clear hP_c1); (try clear hP_f1)
    (try clear hP_c2); (try clear hP_f2)
    (try clear hP_lt)
    have hP_lt := hP.lt; (try simp only [World.size_alloc] at hP_lt)
    have hP_c0 := hP.cell 0; have hP_f0 := hP.frozen 0
    have hP_c1 := hP.cell 1; have hP_f1 := hP.frozen 1
    have hP_c2 := hP.cell 2; have hP_f2 := hP.frozen 2
    simp only [List.getElem?_toArray, List.getElem?_cons_zero, List.getElem?_cons_succ] at hP_c0 hP_c1 hP_c2
    have hX : Wts w1 w1.heap.size A n xs := (Wts.below hws hB1).more hB1.size
    clear hb1 hws
    go_wp2_with fail
    refine (toP_any ea cr A n c xs _ hX hn21).mono ?_
    rintro x w2 ⟨g2, rfl, hg2, hrow2, hb2⟩
    replace hP := hP.below hb2 (by first | omega | exact hP.lt | (simp; done) | (simp; omega))
    (try clear hP_c0); (try clear hP_f0)
    (try clear hP_c1); (try clear hP_f1)
    (try clear hP_c2); (try clear hP_f2)
    (try clear hP_lt)
    have hP_lt := hP.lt; (try simp only [World.size_alloc] at hP_lt)
    have hP_c0 := hP.cell 0; have hP_f0 := hP.frozen 0
    have hP_c1 := hP.cell 1; have hP_f1 := hP.frozen 1
    have hP_c2 := hP.cell 2; have hP_f2 := hP.frozen 2
    simp only [List.getElem?_toArray, List.getElem?_cons_zero, List.getElem?_cons_succ] at hP_c0 hP_c1 hP_c2
    replace hX := (Wts.below hX hb2).more hb2.size
    have hB2 : Below w.heap.size w w2 := hB1.trans (hb2.mono hB1.size)
    have hS2 := seq_rowW hrow2 hX.len
    clear hb2 hrow2
    go_wp2_with fail
    refine (sticks_any ea cr (some ⟨g2, 0, none⟩) n n xs w2 hS2 hn40 (Nat.le_refl _) (by omega)).mono ?_
    rintro x w3 ⟨rfl, hb3⟩
    replace hP := hP.below hb3 (by first | omega | exact hP.lt | (simp; done) | (simp; omega))
    (try clear hP_c0); (try clear hP_f0)
    (try clear hP_c1); (try clear hP_f1)
    (try clear hP_c2); (try clear hP_f2)
    (try clear hP_lt)
    have hP_lt := hP.lt; (try simp only [World.size_alloc] at hP_lt)
    have hP_c0 := hP.cell 0; have hP_f0 := hP.frozen 0
    have hP_c1 := hP.cell 1; have hP_f1 := hP.frozen 1
    have hP_c2 := hP.cell 2; have hP_f2 := hP.frozen 2
    simp only [List.getElem?_toArray, List.getElem?_cons_zero, List.getElem?_cons_succ] at hP_c0 hP_c1 hP_c2
    replace hX := (Wts.below hX hb3).more hb3.size
    have hB3 : Below w.heap.size w w3 := hB2.trans (hb3.mono hB2.size)
    clear hb3 hS2 hg2
    go_wp2_with fail
    refine (toP_any ea cr A n c xs _ hX hn21).mono ?_
    rintro x w4 ⟨g4, rfl, hg4, hrow4, hb4⟩
    replace hP := hP.below hb4 (by first | omega | exact hP.lt | (simp; done) | (simp; omega))
    (try clear hP_c0); (try clear hP_f0)
    (try clear hP_c1); (try clear hP_f1)
    (try clear hP_c2); (try clear hP_f2)
    (try clear hP_lt)
    have hP_lt := hP.lt; (try simp only [World.size_alloc] at hP_lt)
    have hP_c0 := hP.cell 0; have hP_f0 := hP.frozen 0
    have hP_c1 := hP.cell 1; have hP_f1 := hP.frozen 1
    have hP_c2 := hP.cell 2; have hP_f2 := hP.frozen 2
    simp only [List.getElem?_toArray, List.getElem?_cons_zero, List.getElem?_cons_succ] at hP_c0 hP_c1 hP_c2
    replace hX := (Wts.below hX hb4).more hb4.size
    have hB4 : Below w.heap.size w w4 := hB3.trans (hb4.mono hB3.size)
    have hS4 := seq_rowW hrow4 hX.len
    clear hb4 hrow4 hg4
    have hbx : Below w4.heap.size w4 (w4.alloc (.cells #[.int .i64 ea, .int .i64 cr, .slice (some ⟨g4, 0, none⟩) n n] 25)) := (by repeat (first | exact Below.refl _ _ | assumption | refine Below.setCell ?_ (by first | omega | (simp; done) | (simp; omega)) _ | refine Below.alloc ?_ (by first | omega | (simp; done) | (simp; omega)) _ | refine Below.drew ?_ | refine Below.drewN' ?_ _ | refine Below.trans ?_ (Below.mono (by assumption) (by first | omega | (simp; done) | (simp; omega)))))
    have hO := Bk.new w4 25 #[.int .i64 ea, .int .i64 cr, .slice (some ⟨g4, 0, none⟩) n n]
    have hP' := hP.below hbx hP.lt
    replace hX := (Wts.below hX hbx).more hbx.size
    replace hS4 := (Wts.below hS4 hbx).more hbx.size
    have hB4' := hB4.trans (hbx.mono hB4.size)
    clear hbx
    go_wp2_with fail
    refine (iticks_any ea cr (some ⟨g4, 0, none⟩) n n xs _ hS4 hn40 (Nat.le_refl _) (by omega)).mono ?_
    rintro x w5 ⟨rfl, hb5⟩
    (try clear hP_c0); (try clear hP_f0)
    (try clear hP_c1); (try clear hP_f1)
    (try clear hP_c2); (try clear hP_f2)
    (try clear hP_lt)
    clear hP
    replace hP' := hP'.below hb5 (by first | omega | exact hP'.lt | (simp; done) | (simp; omega))
    replace hO := hO.below hb5 (by first | omega | exact hO.lt | (simp; done) | (simp; omega))
    replace hX := (Wts.below hX hb5).more hb5.size
    replace hS4 := (Wts.below hS4 hb5).more hb5.size
    have hB5 := hB4'.trans (hb5.mono hB4'.size)
    clear hb5 hB4' hB4 hB3 hB2 hB1
    (try clear hP'_c0); (try clear hP'_f0)
    (try clear hP'_c1); (try clear hP'_f1)
    (try clear hP'_c2); (try clear hP'_f2)
    (try clear hP'_lt)
    have hP'_lt := hP'.lt; (try simp only [World.size_alloc] at hP'_lt)
    have hP'_c0 := hP'.cell 0; have hP'_f0 := hP'.frozen 0
    have hP'_c1 := hP'.cell 1; have hP'_f1 := hP'.frozen 1
    have hP'_c2 := hP'.cell 2; have hP'_f2 := hP'.frozen 2
    simp only [List.getElem?_toArray, List.getElem?_cons_zero, List.getElem?_cons_succ] at hP'_c0 hP'_c1 hP'_c2
    (try clear hO_c0); (try clear hO_f0)
    (try clear hO_c1); (try clear hO_f1)
    (try clear hO_c2); (try clear hO_f2)
    (try clear hO_lt)
    have hO_lt := hO.lt; (try simp only [World.size_alloc] at hO_lt)
    have hO_c0 := hO.cell 0; have hO_f0 := hO.frozen 0
    have hO_c1 := hO.cell 1; have hO_f1 := hO.frozen 1
    have hO_c2 := hO.cell 2; have hO_f2 := hO.frozen 2
    simp only [List.getElem?_toArray, List.getElem?_cons_zero, List.getElem?_cons_succ] at hO_c0 hO_c1 hO_c2
    go_wp2_with fail
    have HX := Lib.hid (show Wts w5.drew w5.drew.heap.size A n xs from hX)
    have HS4 := Lib.hid (show Wts w5.drew w5.drew.heap.size (some ⟨g4, 0, none⟩) n xs from hS4)
    clear hX hS4
    go_region_held3 (fun w' => w'.cell? ⟨w.heap.size, 0, none⟩ = some (.int .i64 ea) ∧ w'.cell? ⟨w.heap.size, 1, none⟩ = some (.int .i64 cr) ∧ w'.cell? ⟨w.heap.size, 2, none⟩ = some (.slice A n c) ∧ w'.cell? ⟨w4.heap.size, 0, none⟩ = some (.int .i64 ea) ∧ w'.cell? ⟨w4.heap.size, 1, none⟩ = some (.int .i64 cr) ∧ w'.cell? ⟨w4.heap.size, 2, none⟩ = some (.slice (some ⟨g4, 0, none⟩) n n)) (first | with_reducible exact ⟨p0, p1, p2, o0, o1, o2⟩ | with_reducible exact ⟨q0, q1, q2, r0, r1, r2⟩ | exact ⟨hP'_c0, hP'_c1, hP'_c2, hO_c0, hO_c1, hO_c2⟩)
      (first
        | (go_at_call 26; (with_reducible refine (toP_any ea cr A n c xs w5.drew HX.out hn21).mono ?_); rintro e w6 ⟨g6, rfl, hg6, hrow6, hb6⟩; have hP6 := hP'.drew.below hb6 hP'.lt; have hO6 := hO.drew.below hb6 hO.lt; have p0 := hP6.cell 0; have p1 := hP6.cell 1; have p2 := hP6.cell 2; have o0 := hO6.cell 0; have o1 := hO6.cell 1; have o2 := hO6.cell 2; simp only [List.getElem?_toArray, List.getElem?_cons_zero, List.getElem?_cons_succ] at p0 p1 p2 o0 o1 o2; have hS6 := seq_rowW hrow6 HX.out.len; have hS46 := (Wts.below HS4.out hb6).more hb6.size)
        | (go_at_call 28; (with_reducible refine (eqP_same ea cr (some ⟨g4, 0, none⟩) (some ⟨g6, 0, none⟩) n n n w6.heap.size xs w6 hS46 hS6 (Nat.le_refl _) hn40).mono ?_); rintro e w7 ⟨rfl, hb7⟩; have hP7 := hP6.below hb7 hP6.lt; have hO7 := hO6.below hb7 hO6.lt; have q0 := hP7.cell 0; have q1 := hP7.cell 1; have q2 := hP7.cell 2; have r0 := hO7.cell 0; have r1 := hO7.cell 1; have r2 := hO7.cell 2; simp only [List.getElem?_toArray, List.getElem?_cons_zero, List.getElem?_cons_succ] at q0 q1 q2 r0 r1 r2))
    have hB7 : Below w.heap.size w w7 := ((Below.drew hB5).trans (hb6.mono hB5.size)).trans (hb7.mono (by have h1 := hB5.size; have h2 := hb6.size; show _ ≤ w6.heap.size; have h3 : w5.heap.size ≤ w6.heap.size := h2; omega))
    go_wp2
    go_ret
    exact ⟨rfl, hB7⟩

set_option maxRecDepth 100000 in
theorem lifted (os : Os) (started : os.Started) (H : Type) (enc : TypeId × Value → H) :
    ReturnsInHanded {} Try.checked os 11 .any (Rows.fnExactPacerTicksSpec.pre6 enc Try.prog Try.f11 Rows.fnExactPacerTicksRow.domain false) (Rows.fnExactPacerTicksSpec.post enc Try.prog Try.f11 false true false false) := by
  refine returnsInHanded_of_change (C := Try.checked) own started (by kernel_rfl) Try.func11
    (ChangeSpec.witness6 (enc := enc) (C := Try.checked) false ⟨#[], #[.agg #[.int .i64 0, .int .i64 0, .slice none 0 0]], []⟩ 8 (by kernel_rfl) (by kernel_rfl) (by kernel_rfl) (by kernel_rfl)) ?_
  intro W base args ds gs before hval0 hW hcnd _
  have hval : ∀ (j : Nat) t v, Try.f11.params[j]? = some t → args[j]? = some v → Value.okWide Try.prog W .any base t v := hval0
  have hW' := hW
  obtain ⟨p, q, hA0, hV, rfl, hfz, hnd⟩ := hW
  have hA : DataW.TrodAll enc Try.prog W 0 (fun _ => true) true Try.f11.params.toList args.toList ds p := hA0
  rw [Try.params11] at hA hval
  obtain ⟨v0, vs0, d0, ds0, p0, q0, hargs, rfl, rfl, h0, r0⟩ := trodAll_cons hA
  obtain ⟨rfl, rfl, rfl⟩ := trodAll_nil r0
  obtain rfl : args = #[v0] := by cases args; simp_all
  obtain ⟨rfl, rfl⟩ := trodVars_none hV
  obtain ⟨ea, cr, A, n, c, xs, rfl, hnc, hcm, hws⟩ := open_pacer (hval 0 42 v0 rfl rfl) h0
  have lt0 : ∀ x ∈ p0, x.block < W.heap.size := by obtain ⟨m, hm⟩ := h0; exact DataW.trod_lt m _ _ _ hm
  clear hA0 hval0
  refine (walk ea cr A n c xs W hws hnc hcm).mono fun e W' ⟨he, bel⟩ => ?_
  subst he
  exact ⟨_, rfl, _, _, _, [], _, [], hW', trodAll_mk1 (shut_bool Try.underlying4 _), (trodAll_cons_mk (Below.trod laidOut (by kernel_rfl) (of_decide_eq_true (by kernel_rfl)) h0 bel lt0) trodAll_mk0), rfl, bel.frame _, fun h => by cases h⟩

theorem over : Rows.fnExactPacerTicksRow.holds Try.pinned (OpenSpec.ofChange Rows.fnExactPacerTicksSpec) :=
  OpenClaim.holds_of_wide 11 Try.f11 rfl rfl rfl rfl rfl rfl rfl ⟨rfl, rfl, rfl, rfl, rfl⟩ rfl rfl rfl rfl rfl (by kernel_rfl) Try.func11 (by kernel_rfl)
    (of_decide_eq_true (by kernel_rfl)) (by unfold Func.isWrapper; first | (rw [if_pos (by decide +kernel)]; kernel_rfl) | (rw [if_neg (by decide +kernel)]; exact ⟨rfl, rfl⟩))
    (fun os started H enc _ => lifted os started H enc)

/-- THE STATEMENT -/
theorem proved : Rows.FnExactPacerTicksSaid := over
#print axioms proved
end Go.Proofs.Ytilokgloocbbnaa.fnExactPacerTicks
