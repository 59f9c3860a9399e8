/-
  The statement FnExactSharesFull: the law returns true for every input, and what was there before the call has not turned.
  No condition beyond the given statement.
-/
import Derived.Test.YthkoafcbcnobhaaRows
import Derived.WalkKit
import Derived.ProofKit
import Derived.OpenShut
import Derived.ShutString
import Derived.ChangeOld
import Derived.Below
import Derived.Test.YthkoafcbcnobhaaDemV
import Derived.Test.YthkoafcbcnobhaaCost
import Derived.Test.YthkoafcbcnobhaaNext
import Derived.Test.YthkoafcbcnobhaaSeqD
import Derived.Test.YthkoafcbcnobhaaOpenD
import Derived.Test.YthkoafcbcnobhaaInts
import Derived.Test.YthkoafcbcnobhaaBut
namespace Go.Proofs.Ythkoafcbcnobhaa.fnExactSharesFull
open Go.ChangeShapes Go.WideShapes Go.ChangeAt Go.RowKit
set_option linter.unusedVariables false
set_option linter.unusedSimpArgs false

theorem own : ownKnob Try.prog.godebug = none := by kernel_rfl
theorem laidOut : laidOutB Try.prog = true := by kernel_rfl


/-! ### STEP 1: THE WALK -/
set_option maxHeartbeats 4000000 in
set_option maxRecDepth 100000 in
theorem walk (A : Option Addr) (n c : Nat) (xs : List Dm) (A1 : Option Addr) (m c1 : Nat) (ls : List Int) (z : Int) (w : World) (hws : Dms w w.heap.size A n xs) (hnc : n ≤ c) (hcm : c ≤ maxLen) (his : Ints w w.heap.size A1 m ls) (hnc1 : m ≤ c1) (hcm1 : c1 ≤ maxLen) (hz : (Lit.int .i64 z).wf = true) :
    Calls Try.prog 7 #[.slice A n c, .slice A1 m c1, .int .i64 z] w fun e w' => e = .returned (.bool true) ∧ Below w.heap.size w w' := by
  by_cases hm : 1048576 < m
  · have e0 : decide (1048576 < m) = true := by simpa using hm
    go_enter Try.func7, Try.ntmps7
    go_wp2
    go_ret
    exact ⟨rfl, Below.refl _ _⟩
  have e0 : decide (1048576 < m) = false := by simpa using hm
  by_cases hbig : 1048576 < n
  · go_enter Try.func7, Try.ntmps7
    go_wp2_with fail
    refine (szD_no A n c _ hbig (by omega)).mono ?_
    rintro e w0 ⟨rfl, rfl⟩
    go_wp2
    go_ret
    exact ⟨rfl, Below.refl _ _⟩
  have hn20 : n ≤ 1048576 := by omega
  have hm20 : m ≤ 1048576 := by omega
  have hLx := Lib.hid hws.len
  have hLi := Lib.hid his.len
  clear hm hbig hnc hcm
  have e1 : decide ((1048576 : Int) - n < 0) = false := by simp; omega
  go_enter Try.func7, Try.ntmps7
  go_wp2_with fail
  refine (szD_ok A n c _ hn20).mono ?_
  rintro e w0 ⟨rfl, rfl⟩
  have hX := hws
  have hI := his
  have hB := Below.refl w.heap.size w
  clear hws his
  go_wp2_with fail
  refine (toDemandS_any A n c xs _ hX (by omega)).mono ?_
  rintro e w1 ⟨g1, rfl, hg1, hrow, hb⟩
  have hD1_ := seq_rowD hrow hLx.out
  replace hX := (hX.below hb).more hb.size
  replace hI := (hI.below hb).more hb.size
  replace hB := hB.trans (hb.mono hB.size)
  clear hb
  have hD1 := hD1_
  clear hrow hg1 hD1_
  go_wp2_with fail
  refine (toIntS_any A1 m c1 ls _ hI hnc1 (by omega)).mono ?_
  rintro e w2 ⟨A2, rfl, hI10_, hb⟩
  replace hX := (hX.below hb).more hb.size
  replace hI := (hI.below hb).more hb.size
  replace hD1 := (hD1.below hb).more hb.size
  replace hB := hB.trans (hb.mono hB.size)
  clear hb
  have hI1 := hI10_
  clear hI10_
  go_wp2_with fail
  refine (sfull_any (some ⟨g1, 0, none⟩) (A2) n m n m xs ls z _ hD1 hI1 (by omega) (by omega)).mono ?_
  rintro e w3 ⟨rfl, hb⟩
  replace hX := (hX.below hb).more hb.size
  replace hI := (hI.below hb).more hb.size
  replace hD1 := (hD1.below hb).more hb.size
  replace hI1 := (hI1.below hb).more hb.size
  replace hB := hB.trans (hb.mono hB.size)
  clear hb
  go_wp2_with fail
  refine (toDemandS_any A n c xs _ hX (by omega)).mono ?_
  rintro e w4 ⟨g4, rfl, hg4, hrow, hb⟩
  have hD2_ := seq_rowD hrow hLx.out
  replace hX := (hX.below hb).more hb.size
  replace hI := (hI.below hb).more hb.size
  replace hD1 := (hD1.below hb).more hb.size
  replace hI1 := (hI1.below hb).more hb.size
  replace hB := hB.trans (hb.mono hB.size)
  clear hb
  have hD2 := hD2_
  clear hrow hg4 hD2_
  go_wp2_with fail
  refine (toIntS_any A1 m c1 ls _ hI hnc1 (by omega)).mono ?_
  rintro e w5 ⟨A5, rfl, hI20_, hb⟩
  replace hX := (hX.below hb).more hb.size
  replace hI := (hI.below hb).more hb.size
  replace hD1 := (hD1.below hb).more hb.size
  replace hI1 := (hI1.below hb).more hb.size
  replace hD2 := (hD2.below hb).more hb.size
  replace hB := hB.trans (hb.mono hB.size)
  clear hb
  have hI2 := hI20_
  clear hI20_
  go_wp2_with fail
  refine (ifull_any (some ⟨g4, 0, none⟩) (A5) n m n m xs ls z _ hD2 hI2 (by omega) (by omega)).mono ?_
  rintro e w6 ⟨rfl, hb⟩
  replace hX := (hX.below hb).more hb.size
  replace hI := (hI.below hb).more hb.size
  replace hD1 := (hD1.below hb).more hb.size
  replace hI1 := (hI1.below hb).more hb.size
  replace hD2 := (hD2.below hb).more hb.size
  replace hI2 := (hI2.below hb).more hb.size
  replace hB := hB.trans (hb.mono hB.size)
  clear hb
  go_wp2_with fail
  refine (toDemandS_any A n c xs _ hX (by omega)).mono ?_
  rintro e w7 ⟨g7, rfl, hg7, hrow, hb⟩
  have hD3_ := seq_rowD hrow hLx.out
  replace hX := (hX.below hb).more hb.size
  replace hI := (hI.below hb).more hb.size
  replace hD1 := (hD1.below hb).more hb.size
  replace hI1 := (hI1.below hb).more hb.size
  replace hD2 := (hD2.below hb).more hb.size
  replace hI2 := (hI2.below hb).more hb.size
  replace hB := hB.trans (hb.mono hB.size)
  clear hb
  have hD3 := hD3_
  clear hrow hg7 hD3_
  go_wp2_with fail
  refine (eqDemandS_same (some ⟨g4, 0, none⟩) (some ⟨g7, 0, none⟩) n n n _ xs _ hD2 hD3 (Nat.le_refl _) (by omega)).mono ?_
  rintro e w8 ⟨rfl, hb⟩
  replace hX := (hX.below hb).more hb.size
  replace hI := (hI.below hb).more hb.size
  replace hD1 := (hD1.below hb).more hb.size
  replace hI1 := (hI1.below hb).more hb.size
  replace hD2 := (hD2.below hb).more hb.size
  replace hI2 := (hI2.below hb).more hb.size
  replace hD3 := (hD3.below hb).more hb.size
  replace hB := hB.trans (hb.mono hB.size)
  clear hb
  go_wp2_with fail
  refine (toIntS_any A1 m c1 ls _ hI hnc1 (by omega)).mono ?_
  rintro e w9 ⟨A9, rfl, hI30_, hb⟩
  replace hX := (hX.below hb).more hb.size
  replace hI := (hI.below hb).more hb.size
  replace hD1 := (hD1.below hb).more hb.size
  replace hI1 := (hI1.below hb).more hb.size
  replace hD2 := (hD2.below hb).more hb.size
  replace hI2 := (hI2.below hb).more hb.size
  replace hD3 := (hD3.below hb).more hb.size
  replace hB := hB.trans (hb.mono hB.size)
  clear hb
  have hI3 := hI30_
  clear hI30_
  go_wp2_with fail
  refine (eqIntS_same (A5) (A9) m m m _ ls _ hI2 hI3 (by omega)).mono ?_
  rintro e w10 ⟨rfl, hb⟩
  replace hX := (hX.below hb).more hb.size
  replace hI := (hI.below hb).more hb.size
  replace hD1 := (hD1.below hb).more hb.size
  replace hI1 := (hI1.below hb).more hb.size
  replace hD2 := (hD2.below hb).more hb.size
  replace hI2 := (hI2.below hb).more hb.size
  replace hD3 := (hD3.below hb).more hb.size
  replace hI3 := (hI3.below hb).more hb.size
  replace hB := hB.trans (hb.mono hB.size)
  clear hb
  go_wp2
  go_ret
  exact ⟨rfl, hB⟩

set_option maxRecDepth 100000 in
theorem lifted (os : Os) (started : os.Started) (H : Type) (enc : TypeId × Value → H) :
    ReturnsInHanded {} Try.checked os 7 .any (Rows.fnExactSharesFullSpec.pre6 enc Try.prog Try.f7 Rows.fnExactSharesFullRow.domain false) (Rows.fnExactSharesFullSpec.post enc Try.prog Try.f7 false true false false) := by
  refine returnsInHanded_of_change (C := Try.checked) own started (by kernel_rfl) Try.func7
    (ChangeSpec.witness6 (enc := enc) (C := Try.checked) false ⟨#[], #[.slice none 0 0, .slice none 0 0, .int .i64 0], []⟩ 8 (by kernel_rfl) (by kernel_rfl) (by kernel_rfl) (by kernel_rfl)) ?_
  intro W base args ds gs before hval0 hW hcnd _
  have hval : ∀ (j : Nat) t v, Try.f7.params[j]? = some t → args[j]? = some v → Value.okWide Try.prog W .any base t v := hval0
  have hW' := hW
  obtain ⟨p, q, hA0, hV, rfl, hfz, hnd⟩ := hW
  have hA : DataW.TrodAll enc Try.prog W 0 (fun _ => true) true Try.f7.params.toList args.toList ds p := hA0
  rw [Try.params7] at hA hval
  obtain ⟨v0, vs0, d0, ds0, p0, q0, hargs, rfl, rfl, h0, r0⟩ := trodAll_cons hA
  obtain ⟨v1, vs1, d1, ds1, p1, q1, rfl, rfl, rfl, h1, r1⟩ := trodAll_cons r0
  obtain ⟨v2, vs2, d2, ds2, p2, q2, rfl, rfl, rfl, h2, r2⟩ := trodAll_cons r1
  obtain ⟨rfl, rfl, rfl⟩ := trodAll_nil r2
  obtain rfl : args = #[v0, v1, v2] := by cases args; simp_all
  obtain ⟨rfl, rfl⟩ := trodVars_none hV
  obtain ⟨A, n, c, xs, rfl, hnc, hcm, hws⟩ := open_dms (hval 0 22 v0 rfl rfl) h0
  obtain ⟨A1, m, c1, ls, rfl, hnc1, hcm1, his⟩ := open_intsD (hval 1 23 v1 rfl rfl) h1
  obtain ⟨z, rfl, hz⟩ := open_intD (hval 2 3 v2 rfl rfl) h2
  have lt0 : ∀ x ∈ p0, x.block < W.heap.size := by obtain ⟨m, hm⟩ := h0; exact DataW.trod_lt m _ _ _ hm
  have lt1 : ∀ x ∈ p1, x.block < W.heap.size := by obtain ⟨m, hm⟩ := h1; exact DataW.trod_lt m _ _ _ hm
  have lt2 : ∀ x ∈ p2, x.block < W.heap.size := by obtain ⟨m, hm⟩ := h2; exact DataW.trod_lt m _ _ _ hm
  clear hA0 hval0
  refine (walk A n c xs A1 m c1 ls z W hws hnc hcm his hnc1 hcm1 hz).mono fun e W' ⟨he, bel⟩ => ?_
  subst he
  exact ⟨_, rfl, _, _, _, [], _, [], hW', trodAll_mk1 (shut_bool Try.underlying4 _), (trodAll_cons_mk (Below.trod laidOut (by kernel_rfl) (of_decide_eq_true (by kernel_rfl)) h0 bel lt0) (trodAll_cons_mk (Below.trod laidOut (by kernel_rfl) (of_decide_eq_true (by kernel_rfl)) h1 bel lt1) (trodAll_cons_mk (Below.trod laidOut (by kernel_rfl) (of_decide_eq_true (by kernel_rfl)) h2 bel lt2) trodAll_mk0))), rfl, bel.frame _, fun h => by cases h⟩

theorem over : Rows.fnExactSharesFullRow.holds Try.pinned (OpenSpec.ofChange Rows.fnExactSharesFullSpec) :=
  OpenClaim.holds_of_wide 7 Try.f7 rfl rfl rfl rfl rfl rfl rfl ⟨rfl, rfl, rfl, rfl, rfl⟩ rfl rfl rfl rfl rfl (by kernel_rfl) Try.func7 (by kernel_rfl)
    (of_decide_eq_true (by kernel_rfl)) (by unfold Func.isWrapper; first | (rw [if_pos (by decide +kernel)]; kernel_rfl) | (rw [if_neg (by decide +kernel)]; exact ⟨rfl, rfl⟩))
    (fun os started H enc _ => lifted os started H enc)

/-- THE STATEMENT -/
theorem proved : Rows.FnExactSharesFullSaid := over
#print axioms proved
end Go.Proofs.Ythkoafcbcnobhaa.fnExactSharesFull
