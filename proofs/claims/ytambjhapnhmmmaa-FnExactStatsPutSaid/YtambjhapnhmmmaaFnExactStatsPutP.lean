/-
  The statement FnExactStatsPut: the law returns true for every input, and what was there before the call has not turned.
  No condition beyond the given statement.
-/
import Derived.Test.YtambjhapnhmmmaaRows
import Derived.WalkKit
import Derived.ProofKit
import Derived.OpenShut
import Derived.ShutString
import Derived.ChangeOld
import Derived.Below
import Derived.Test.YtambjhapnhmmmaaStats
import Derived.Test.YtambjhapnhmmmaaStatsB
import Derived.Test.YtambjhapnhmmmaaStatsC
import Derived.Test.YtambjhapnhmmmaaStatsD
import Derived.Test.YtambjhapnhmmmaaStatsX
namespace Go.Proofs.Ytambjhapnhmmmaa.fnExactStatsPut
open Go.ChangeShapes Go.WideShapes Go.ChangeAt Go.RowKit
set_option linter.unusedVariables false
set_option linter.unusedSimpArgs false

theorem own : ownKnob Try.prog.godebug = none := by kernel_rfl
theorem laidOut : laidOutB Try.prog = true := by kernel_rfl


/-! ### STEP 1: THE WALK -/
set_option maxHeartbeats 4000000 in
set_option maxRecDepth 100000 in
theorem walk (a b c d e' wd t cm : Int) (w : World) :
    Calls Try.prog 4 #[.agg #[.int .i64 a, .int .i64 b, .int .i64 c, .int .i64 d, .int .i64 e'], .int .i64 wd, .int .i64 t, .int .i64 cm] w fun e w' => e = .returned (.bool true) ∧ Below w.heap.size w w' := by
  by_cases hok : PutOk a b c d e' wd t cm
  · go_enter Try.func4, Try.ntmps4
    go_wp2_with fail
    refine (toSt_any _ _ _ _ _ _).mono ?_
    rintro x w1 ⟨rfl, hb1⟩
    have hB1 : Below w.heap.size w w1 := (by repeat (first | exact Below.refl _ _ | assumption | refine Below.setCell ?_ (by first | omega | (simp; done) | (simp; omega)) _ | refine Below.alloc ?_ (by first | omega | (simp; done) | (simp; omega)) _ | refine Below.drew ?_ | refine Below.drewN' ?_ _ | refine Below.trans ?_ (Below.mono (by assumption) (by first | omega | (simp; done) | (simp; omega)))))
    have s1 := hb1.size
    have hA := (Bk.new w 30 #[.int .i64 a, .int .i64 b, .int .i64 c, .int .i64 d, .int .i64 e']).below hb1 (by simp)
    go_wp2_with fail
    refine (sput_ok _ _ _ _ _ _ _ _ _ hok).mono ?_
    rintro x w2 ⟨rfl, hb2⟩
    have hB2 := hB1.trans (hb2.mono hB1.size)
    replace hA := hA.below hb2 (by first | omega | exact hA.lt | (simp; done) | (simp; omega))
    (try clear hA_c0); (try clear hA_f0)
    (try clear hA_c1); (try clear hA_f1)
    (try clear hA_c2); (try clear hA_f2)
    (try clear hA_c3); (try clear hA_f3)
    (try clear hA_c4); (try clear hA_f4)
    (try clear hA_lt)
    have hA_lt := hA.lt; (try simp only [World.size_alloc] at hA_lt)
    have hA_c0 := hA.cell 0; have hA_f0 := hA.frozen 0
    have hA_c1 := hA.cell 1; have hA_f1 := hA.frozen 1
    have hA_c2 := hA.cell 2; have hA_f2 := hA.frozen 2
    have hA_c3 := hA.cell 3; have hA_f3 := hA.frozen 3
    have hA_c4 := hA.cell 4; have hA_f4 := hA.frozen 4
    simp only [List.getElem?_toArray, List.getElem?_cons_zero, List.getElem?_cons_succ] at hA_c0 hA_c1 hA_c2 hA_c3 hA_c4
    have hW := Bk.new w2 31 #[.int .i64 a, .int .i64 (max b wd), .int .i64 (c + 1), .int .i64 (putD d e' t cm), .int .i64 (cm - t)]
    have s2 := hB2.size
    go_wp2_with fail
    refine (toSt_any _ _ _ _ _ _).mono ?_
    rintro x w3 ⟨rfl, hb3⟩
    have hB3 : Below w.heap.size w w3 := (by repeat (first | exact Below.refl _ _ | assumption | refine Below.setCell ?_ (by first | omega | (simp; done) | (simp; omega)) _ | refine Below.alloc ?_ (by first | omega | (simp; done) | (simp; omega)) _ | refine Below.drew ?_ | refine Below.drewN' ?_ _ | refine Below.trans ?_ (Below.mono (by assumption) (by first | omega | (simp; done) | (simp; omega)))))
    replace hW := hW.below hb3 (by first | omega | exact hW.lt | (simp; done) | (simp; omega))
    have s3 := hB3.size
    go_wp2_with fail
    refine (iput_ok _ _ _ _ _ _ _ _ _ hok).mono ?_
    rintro x w4 ⟨rfl, hb4⟩
    have hB4 := hB3.trans (hb4.mono hB3.size)
    replace hW := hW.below hb4 (by first | omega | exact hW.lt | (simp; done) | (simp; omega))
    (try clear hW_c0); (try clear hW_f0)
    (try clear hW_c1); (try clear hW_f1)
    (try clear hW_c2); (try clear hW_f2)
    (try clear hW_c3); (try clear hW_f3)
    (try clear hW_c4); (try clear hW_f4)
    (try clear hW_lt)
    have hW_lt := hW.lt; (try simp only [World.size_alloc] at hW_lt)
    have hW_c0 := hW.cell 0; have hW_f0 := hW.frozen 0
    have hW_c1 := hW.cell 1; have hW_f1 := hW.frozen 1
    have hW_c2 := hW.cell 2; have hW_f2 := hW.frozen 2
    have hW_c3 := hW.cell 3; have hW_f3 := hW.frozen 3
    have hW_c4 := hW.cell 4; have hW_f4 := hW.frozen 4
    simp only [List.getElem?_toArray, List.getElem?_cons_zero, List.getElem?_cons_succ] at hW_c0 hW_c1 hW_c2 hW_c3 hW_c4
    have s4 := hB4.size
    clear hb1 hb2 hb3 hb4 hB1 hB2 hB3
    go_wp2_with fail
    refine (eqSt_same _ _ _ _ _ _).mono ?_
    rintro x w5 ⟨rfl, hb5⟩
    have hB5 : Below w.heap.size w w5 := (by repeat (first | exact Below.refl _ _ | assumption | refine Below.setCell ?_ (by first | omega | (simp; done) | (simp; omega)) _ | refine Below.alloc ?_ (by first | omega | (simp; done) | (simp; omega)) _ | refine Below.drew ?_ | refine Below.drewN' ?_ _ | refine Below.trans ?_ (Below.mono (by assumption) (by first | omega | (simp; done) | (simp; omega)))))
    go_wp2
    go_ret
    exact ⟨rfl, hB5⟩
  · go_enter Try.func4, Try.ntmps4
    go_wp2_with fail
    refine (toSt_any _ _ _ _ _ _).mono ?_
    rintro x w1 ⟨rfl, hb1⟩
    have hB1 : Below w.heap.size w w1 := (by repeat (first | exact Below.refl _ _ | assumption | refine Below.setCell ?_ (by first | omega | (simp; done) | (simp; omega)) _ | refine Below.alloc ?_ (by first | omega | (simp; done) | (simp; omega)) _ | refine Below.drew ?_ | refine Below.drewN' ?_ _ | refine Below.trans ?_ (Below.mono (by assumption) (by first | omega | (simp; done) | (simp; omega)))))
    have s1 := hb1.size
    have hA := (Bk.new w 30 #[.int .i64 a, .int .i64 b, .int .i64 c, .int .i64 d, .int .i64 e']).below hb1 (by simp)
    go_wp2_with fail
    refine (sput_no _ _ _ _ _ _ _ _ _ hok).mono ?_
    rintro x w2 ⟨rfl, hb2⟩
    have hB2 := hB1.trans (hb2.mono hB1.size)
    replace hA := hA.below hb2 (by first | omega | exact hA.lt | (simp; done) | (simp; omega))
    (try clear hA_c0); (try clear hA_f0)
    (try clear hA_c1); (try clear hA_f1)
    (try clear hA_c2); (try clear hA_f2)
    (try clear hA_c3); (try clear hA_f3)
    (try clear hA_c4); (try clear hA_f4)
    (try clear hA_lt)
    have hA_lt := hA.lt; (try simp only [World.size_alloc] at hA_lt)
    have hA_c0 := hA.cell 0; have hA_f0 := hA.frozen 0
    have hA_c1 := hA.cell 1; have hA_f1 := hA.frozen 1
    have hA_c2 := hA.cell 2; have hA_f2 := hA.frozen 2
    have hA_c3 := hA.cell 3; have hA_f3 := hA.frozen 3
    have hA_c4 := hA.cell 4; have hA_f4 := hA.frozen 4
    simp only [List.getElem?_toArray, List.getElem?_cons_zero, List.getElem?_cons_succ] at hA_c0 hA_c1 hA_c2 hA_c3 hA_c4
    have hW := Bk.new w2 31 #[.int .i64 0, .int .i64 0, .int .i64 0, .int .i64 0, .int .i64 0]
    have s2 := hB2.size
    go_wp2_with fail
    refine (toSt_any _ _ _ _ _ _).mono ?_
    rintro x w3 ⟨rfl, hb3⟩
    have hB3 : Below w.heap.size w w3 := (by repeat (first | exact Below.refl _ _ | assumption | refine Below.setCell ?_ (by first | omega | (simp; done) | (simp; omega)) _ | refine Below.alloc ?_ (by first | omega | (simp; done) | (simp; omega)) _ | refine Below.drew ?_ | refine Below.drewN' ?_ _ | refine Below.trans ?_ (Below.mono (by assumption) (by first | omega | (simp; done) | (simp; omega)))))
    replace hW := hW.below hb3 (by first | omega | exact hW.lt | (simp; done) | (simp; omega))
    have s3 := hB3.size
    go_wp2_with fail
    refine (iput_no _ _ _ _ _ _ _ _ _ hok).mono ?_
    rintro x w4 ⟨rfl, hb4⟩
    have hB4 := hB3.trans (hb4.mono hB3.size)
    replace hW := hW.below hb4 (by first | omega | exact hW.lt | (simp; done) | (simp; omega))
    (try clear hW_c0); (try clear hW_f0)
    (try clear hW_c1); (try clear hW_f1)
    (try clear hW_c2); (try clear hW_f2)
    (try clear hW_c3); (try clear hW_f3)
    (try clear hW_c4); (try clear hW_f4)
    (try clear hW_lt)
    have hW_lt := hW.lt; (try simp only [World.size_alloc] at hW_lt)
    have hW_c0 := hW.cell 0; have hW_f0 := hW.frozen 0
    have hW_c1 := hW.cell 1; have hW_f1 := hW.frozen 1
    have hW_c2 := hW.cell 2; have hW_f2 := hW.frozen 2
    have hW_c3 := hW.cell 3; have hW_f3 := hW.frozen 3
    have hW_c4 := hW.cell 4; have hW_f4 := hW.frozen 4
    simp only [List.getElem?_toArray, List.getElem?_cons_zero, List.getElem?_cons_succ] at hW_c0 hW_c1 hW_c2 hW_c3 hW_c4
    have s4 := hB4.size
    clear hb1 hb2 hb3 hb4 hB1 hB2 hB3
    go_wp2_with fail
    refine (eqSt_same _ _ _ _ _ _).mono ?_
    rintro x w5 ⟨rfl, hb5⟩
    have hB5 : Below w.heap.size w w5 := (by repeat (first | exact Below.refl _ _ | assumption | refine Below.setCell ?_ (by first | omega | (simp; done) | (simp; omega)) _ | refine Below.alloc ?_ (by first | omega | (simp; done) | (simp; omega)) _ | refine Below.drew ?_ | refine Below.drewN' ?_ _ | refine Below.trans ?_ (Below.mono (by assumption) (by first | omega | (simp; done) | (simp; omega)))))
    go_wp2
    go_ret
    exact ⟨rfl, hB5⟩

theorem cells0 : Try.prog.cellsOf 30 = 5 := by kernel_rfl
theorem types0 : Try.prog.cellTypes Try.prog.depth 30 = some [3, 3, 3, 3, 3] := by kernel_rfl

theorem args0 {w : World} {r : Reach} {b : Nat} {v : Value} (h : Value.okWide Try.prog w r b 30 v) : ∃ z0 z1 z2 z3 z4 : Int, v = .agg #[.int .i64 z0, .int .i64 z1, .int .i64 z2, .int .i64 z3, .int .i64 z4] := by
  obtain ⟨zs, hv, hz⟩ := agg_ints (k := .i64) (n := 5) (ts := [3, 3, 3, 3, 3]) Try.underlying30 cells0 types0 (by rfl) (by
    intro u hu
    simp only [List.mem_cons, List.not_mem_nil, or_false, or_self] at hu
    rw [hu]
    exact Try.underlying3) h
  match zs, hz with
  | [z0, z1, z2, z3, z4], _ => exact ⟨z0, z1, z2, z3, z4, hv⟩

set_option maxRecDepth 100000 in
theorem lifted (os : Os) (started : os.Started) (H : Type) (enc : TypeId × Value → H) :
    ReturnsInHanded {} Try.checked os 4 .any (Rows.fnExactStatsPutSpec.pre6 enc Try.prog Try.f4 Rows.fnExactStatsPutRow.domain false) (Rows.fnExactStatsPutSpec.post enc Try.prog Try.f4 false true false false) := by
  refine returnsInHanded_of_change (C := Try.checked) own started (by kernel_rfl) Try.func4
    (ChangeSpec.witness6 (enc := enc) (C := Try.checked) false ⟨#[], #[.agg #[.int .i64 0, .int .i64 0, .int .i64 0, .int .i64 0, .int .i64 0], .int .i64 0, .int .i64 0, .int .i64 0], []⟩ 8 (by kernel_rfl) (by kernel_rfl) (by kernel_rfl) (by kernel_rfl)) ?_
  intro W base args ds gs before hval0 hW hcnd _
  have hval : ∀ (j : Nat) t v, Try.f4.params[j]? = some t → args[j]? = some v → Value.okWide Try.prog W .any base t v := hval0
  have hW' := hW
  obtain ⟨p, q, hA0, hV, rfl, hfz, hnd⟩ := hW
  have hA : DataW.TrodAll enc Try.prog W 0 (fun _ => true) true Try.f4.params.toList args.toList ds p := hA0
  rw [Try.params4] at hA hval
  obtain ⟨v0, vs0, d0, ds0, p0, q0, hargs, rfl, rfl, h0, r0⟩ := trodAll_cons hA
  obtain ⟨v1, vs1, d1, ds1, p1, q1, rfl, rfl, rfl, h1, r1⟩ := trodAll_cons r0
  obtain ⟨v2, vs2, d2, ds2, p2, q2, rfl, rfl, rfl, h2, r2⟩ := trodAll_cons r1
  obtain ⟨v3, vs3, d3, ds3, p3, q3, rfl, rfl, rfl, h3, r3⟩ := trodAll_cons r2
  obtain ⟨rfl, rfl, rfl⟩ := trodAll_nil r3
  obtain rfl : args = #[v0, v1, v2, v3] := by cases args; simp_all
  obtain ⟨rfl, rfl⟩ := trodVars_none hV
  obtain ⟨z0, z1, z2, z3, z4, rfl⟩ := args0 (hval 0 30 v0 rfl rfl)
  obtain ⟨a1, rfl⟩ := okWide_int Try.underlying3 (hval 1 3 v1 rfl rfl)
  obtain ⟨a2, rfl⟩ := okWide_int Try.underlying3 (hval 2 3 v2 rfl rfl)
  obtain ⟨a3, rfl⟩ := okWide_int Try.underlying3 (hval 3 3 v3 rfl rfl)
  have lt0 : ∀ x ∈ p0, x.block < W.heap.size := by obtain ⟨m, hm⟩ := h0; exact DataW.trod_lt m _ _ _ hm
  have lt1 : ∀ x ∈ p1, x.block < W.heap.size := by obtain ⟨m, hm⟩ := h1; exact DataW.trod_lt m _ _ _ hm
  have lt2 : ∀ x ∈ p2, x.block < W.heap.size := by obtain ⟨m, hm⟩ := h2; exact DataW.trod_lt m _ _ _ hm
  have lt3 : ∀ x ∈ p3, x.block < W.heap.size := by obtain ⟨m, hm⟩ := h3; exact DataW.trod_lt m _ _ _ hm
  clear hA0 hval0
  refine (walk z0 z1 z2 z3 z4 a1 a2 a3 W).mono fun e W' ⟨he, bel⟩ => ?_
  subst he
  exact ⟨_, rfl, _, _, _, [], _, [], hW', trodAll_mk1 (shut_bool Try.underlying4 _), (trodAll_cons_mk (Below.trod laidOut (by kernel_rfl) (of_decide_eq_true (by kernel_rfl)) h0 bel lt0) (trodAll_cons_mk (Below.trod laidOut (by kernel_rfl) (of_decide_eq_true (by kernel_rfl)) h1 bel lt1) (trodAll_cons_mk (Below.trod laidOut (by kernel_rfl) (of_decide_eq_true (by kernel_rfl)) h2 bel lt2) (trodAll_cons_mk (Below.trod laidOut (by kernel_rfl) (of_decide_eq_true (by kernel_rfl)) h3 bel lt3) trodAll_mk0)))), rfl, bel.frame _, fun h => by cases h⟩

theorem over : Rows.fnExactStatsPutRow.holds Try.pinned (OpenSpec.ofChange Rows.fnExactStatsPutSpec) :=
  OpenClaim.holds_of_wide 4 Try.f4 rfl rfl rfl rfl rfl rfl rfl ⟨rfl, rfl, rfl, rfl, rfl⟩ rfl rfl rfl rfl rfl (by kernel_rfl) Try.func4 (by kernel_rfl)
    (of_decide_eq_true (by kernel_rfl)) (by unfold Func.isWrapper; first | (rw [if_pos (by decide +kernel)]; kernel_rfl) | (rw [if_neg (by decide +kernel)]; exact ⟨rfl, rfl⟩))
    (fun os started H enc _ => lifted os started H enc)

/-- THE STATEMENT -/
theorem proved : Rows.FnExactStatsPutSaid := over
#print axioms proved
end Go.Proofs.Ytambjhapnhmmmaa.fnExactStatsPut
