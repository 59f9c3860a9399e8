/-
  The statement FnExactHeaderFrom: the law returns true for every input, and what was there before the call has not turned.
  No condition beyond the given statement.
-/
import Derived.Test.YtjpglpglgkopiaaDoorRows
import Derived.Test.YtjpglpglgkopiaaDoorTie
import Derived.Test.YtjpglpglgkopiaaDoorCards
import Derived.WalkKit
import Derived.ProofKit
import Derived.OpenShut
import Derived.ShutString
import Derived.ChangeOld
import Derived.Below
import Derived.Test.YtjpglpglgkopiaaDoorHdZ
import Derived.Test.YtjpglpglgkopiaaDoorHdJ
import Derived.Test.YtjpglpglgkopiaaDoorHdY
import Derived.LaidMore
import Derived.Stop.Joined
import Derived.SevenTiedAt
import Derived.Test.YtjpglpglgkopiaaDoorErA
import Derived.Test.YtjpglpglgkopiaaDoorOpI
namespace Go.Proofs.YtjpglpglgkopiaaDoor.fnExactHeaderFrom
open Go.ChangeShapes Go.WideShapes Go.ChangeAt Go.RowKit
set_option linter.unusedVariables false
set_option linter.unusedSimpArgs false

theorem own : ownKnob Tryd.prog.godebug = none := by kernel_rfl
theorem laidOut : laidOutB Tryd.prog = true := by kernel_rfl

theorem hf_two (near : Int) (zs : List Int) : ∃ (x : Pk) (ok : Bool), ∀ w e w', HfRet near zs w e w' → e = .returned (.tuple #[.agg #[.int .i64 x.wi, .int .i64 x.ti, .int .i64 x.la, .int .i64 x.si, .bool x.ky, .bool x.en], .bool ok]) ∧ Below w.heap.size w w' := by
  cases hq : hd near zs with
  | none => exact ⟨⟨0, 0, 0, 0, false, false⟩, false, fun w e w' h => ⟨(h.2 hq).e, (h.2 hq).below⟩⟩
  | some x => exact ⟨x, true, fun w e w' h => ⟨(h.1 x hq).e, (h.1 x hq).below⟩⟩

/-! ### STEP 1: THE WALK -/
set_option maxHeartbeats 4000000 in
set_option maxRecDepth 100000 in
theorem walk (z : Int) (A : Option Addr) (n c : Nat) (zs : List Int) (w : World) (hz : (Lit.int .i64 z).wf = true) (his : Ints w w.heap.size A n zs) (hnc : n ≤ c) (hcm : c ≤ maxLen) (hg : HgOk w) :
    Calls Tryd.prog 3 #[.int .i64 z, .slice A n c] w fun e w' => e = .returned (.bool true) ∧ Below w.heap.size w w' := by
  have hcm' := hcm
  unfold maxLen at hcm'
  by_cases hbig : 1048576 < n
  · have e1 : decide (1048576 < n) = true := by simpa using hbig
    go_enter Tryd.func3, Tryd.ntmps3
    go_wp2
    go_ret
    exact ⟨rfl, Below.refl _ _⟩
  have e1 : decide (1048576 < n) = false := by simpa using hbig
  obtain ⟨x, ok, hx⟩ := hf_two z zs
  have HX := Lib.hid hx
  have HI := Lib.hid his
  clear hx his
  go_enter Tryd.func3, Tryd.ntmps3
  go_wp2_with fail
  refine (toIntS_any A n c zs w HI.out hnc (by omega)).mono ?_
  rintro e w1 ⟨A1, rfl, hown1, hb1⟩
  have HI1 := Lib.hid (HI.out.step hb1)
  have HG1 := Lib.hid (hg.below hb1 hg.lt)
  have HZ1 := Lib.hid (ints_own hown1)
  clear hown1 hg
  go_wp2_with fail
  refine (shf_any z n n A1 zs w1 HZ1.out (by omega)).mono ?_
  rintro e w2 hr
  obtain ⟨rfl, hb2⟩ := HX.out _ _ _ hr
  have hP := Bk.new w2 24 #[.int .i64 x.wi, .int .i64 x.ti, .int .i64 x.la, .int .i64 x.si, .bool x.ky, .bool x.en]
  have hbx := pk_new w2 (.cells #[.int .i64 x.wi, .int .i64 x.ti, .int .i64 x.la, .int .i64 x.si, .bool x.ky, .bool x.en] 24)
  have hb2' := hb2.trans (hbx.mono hb2.size)
  have hB2 := hb1.trans (hb2'.mono hb1.size)
  have HI2 := Lib.hid (HI1.out.step hb2')
  have HG2 := Lib.hid (HG1.out.step hb2')
  clear hr hb2 hbx hb2' hb1 HG1
  go_wp2_with fail
  refine (toIntS_any A n c zs _ HI2.out hnc (by omega)).mono ?_
  rintro e w3 ⟨A3, rfl, hown3, hb3⟩
  have hP3 := hP.below hb3 hP.lt
  have hB3 := hB2.trans (hb3.mono hB2.size)
  have HI3 := Lib.hid (HI2.out.step hb3)
  have HG3 := Lib.hid (HG2.out.step hb3)
  have HZ3 := Lib.hid (ints_own hown3)
  clear hown3 hb3 hP HG2
  go_wp2_with fail
  refine (ihf_any z n n A3 zs w3 HZ3.out (by omega) HG3.out).mono ?_
  rintro e w4 hr
  obtain ⟨rfl, hb4⟩ := HX.out _ _ _ hr
  have hP4 := hP3.below hb4 hP3.lt
  have hl4 : w2.heap.size < w4.heap.size := hP4.lt
  have hbx := pk_new w4 (.cells #[.int .i64 x.wi, .int .i64 x.ti, .int .i64 x.la, .int .i64 x.si, .bool x.ky, .bool x.en] 24)
  have hb4' := hb4.trans (hbx.mono hb4.size)
  have hB4 := hB3.trans (hb4'.mono hB3.size)
  have HI4 := Lib.hid (HI3.out.step hb4')
  have HZ4 := Lib.hid (HZ3.out.step hb4')
  clear hr hb4 hbx hb4' hP3
  (try clear hP4_c0); (try clear hP4_f0)
  (try clear hP4_c1); (try clear hP4_f1)
  (try clear hP4_c2); (try clear hP4_f2)
  (try clear hP4_c3); (try clear hP4_f3)
  (try clear hP4_c4); (try clear hP4_f4)
  (try clear hP4_c5); (try clear hP4_f5)
  (try clear hP4_lt)
  have hP4_lt := hP4.lt; (try simp only [World.size_alloc] at hP4_lt)
  have hP4_c0 := hP4.cell 0; have hP4_f0 := hP4.frozen 0
  have hP4_c1 := hP4.cell 1; have hP4_f1 := hP4.frozen 1
  have hP4_c2 := hP4.cell 2; have hP4_f2 := hP4.frozen 2
  have hP4_c3 := hP4.cell 3; have hP4_f3 := hP4.frozen 3
  have hP4_c4 := hP4.cell 4; have hP4_f4 := hP4.frozen 4
  have hP4_c5 := hP4.cell 5; have hP4_f5 := hP4.frozen 5
  simp only [List.getElem?_toArray, List.getElem?_cons_zero, List.getElem?_cons_succ] at hP4_c0 hP4_c1 hP4_c2 hP4_c3 hP4_c4 hP4_c5
  go_wp2_with fail
  refine (eqPacket_same x _).mono ?_
  rintro e w5 ⟨rfl, hb5⟩
  have hB5 := hB4.trans (hb5.mono hB4.size)
  have HI5 := Lib.hid (HI4.out.step hb5)
  have HZ5 := Lib.hid (HZ4.out.step hb5)
  (try clear hP4_c0); (try clear hP4_f0)
  (try clear hP4_c1); (try clear hP4_f1)
  (try clear hP4_c2); (try clear hP4_f2)
  (try clear hP4_c3); (try clear hP4_f3)
  (try clear hP4_c4); (try clear hP4_f4)
  (try clear hP4_c5); (try clear hP4_f5)
  (try clear hP4_lt)
  clear hb5
  cases ok
  all_goals
    go_wp2_with fail
    refine (toIntS_any A n c zs _ HI5.out hnc (by omega)).mono ?_
    rintro e w6 ⟨A6, rfl, hown6, hb6⟩
    have hB6 := hB5.trans (hb6.mono hB5.size)
    have HZ6 := Lib.hid (HZ5.out.step hb6)
    have HY6 := Lib.hid (ints_own hown6)
    clear hown6 hb6
    go_wp2_with fail
    refine (eqIntS_same _ _ n _ _ w6.heap.size zs w6 HZ6.out HY6.out (by omega)).mono ?_
    rintro e w7 ⟨rfl, hb7⟩
    have HB7 := hB6.trans (hb7.mono hB6.size)
    go_wp2
    go_ret
    exact ⟨rfl, HB7⟩

set_option maxRecDepth 100000 in
theorem lifted (os : Os) (started : os.Started) (H : Type) (enc : TypeId × Value → H) :
    ReturnsInHanded {} Tryd.checked os 3 .any (fun w args => (Rows.fnExactHeaderFromSpec.pre enc Tryd.prog Tryd.f3 [] false w args ∧ laidMetH Tryd.prog Rows.fnExactHeaderFromRow.laid w) ∧ sizedMet enc Tryd.prog Tryd.f3 (OpenSpec.ofChange Rows.fnExactHeaderFromSpec) false w args)
      (Rows.fnExactHeaderFromSpec.post enc Tryd.prog Tryd.f3 false true false false) := by
  refine returnsInHanded_of_change_and (C := Tryd.checked) (X := fun w _ => laidMetH Tryd.prog Rows.fnExactHeaderFromRow.laid w) (fun _ _ _ hh h => h.of_heap hh) own started (by kernel_rfl) Tryd.func3
    (ChangeSpec.witness_at (enc := enc) (C := Tryd.checked) (os := os) (X := fun w _ => laidMetH Tryd.prog Rows.fnExactHeaderFromRow.laid w) false (laidWorld os) #[.int .i64 0, .slice none 0 0] 8 rfl (by kernel_rfl) (by kernel_rfl) (by kernel_rfl) (by kernel_rfl) (by kernel_rfl) (laidWorld_met os _)) ?_
  intro W base args ds gs before hval0 hW _ _ hL _
  have hg : HgOk W := handle_of_laid hL
  have hval : ∀ (j : Nat) t v, Tryd.f3.params[j]? = some t → args[j]? = some v → Value.okWide Tryd.prog W .any base t v := hval0
  have hW' := hW
  obtain ⟨p, q, hA0, hV, rfl, hfz, hnd⟩ := hW
  have hA : DataW.TrodAll enc Tryd.prog W 0 (fun _ => true) true Tryd.f3.params.toList args.toList ds p := hA0
  rw [Tryd.params3] at hA hval
  obtain ⟨v0, vs0, d0, ds0, p0, q0, hargs, rfl, rfl, h0, r0⟩ := trodAll_cons hA
  obtain ⟨v1, vs1, d1, ds1, p1, q1, rfl, rfl, rfl, h1, r1⟩ := trodAll_cons r0
  obtain ⟨rfl, rfl, rfl⟩ := trodAll_nil r1
  obtain rfl : args = #[v0, v1] := by cases args; simp_all
  obtain ⟨rfl, rfl⟩ := trodVars_none hV
  obtain ⟨z, rfl, hz⟩ := open_intI (hval 0 3 v0 rfl rfl) h0
  obtain ⟨A, n, c, zs, rfl, hnc, hcm, his⟩ := open_intsI (hval 1 22 v1 rfl rfl) h1
  have lt0 : ∀ x ∈ p0, x.block < W.heap.size := by obtain ⟨m, hm⟩ := h0; exact DataW.trod_lt m _ _ _ hm
  have lt1 : ∀ x ∈ p1, x.block < W.heap.size := by obtain ⟨m, hm⟩ := h1; exact DataW.trod_lt m _ _ _ hm
  clear hA0 hval0
  refine (walk z A n c zs W hz his hnc hcm hg).mono fun e W' ⟨he, bel⟩ => ?_
  subst he
  exact ⟨_, rfl, _, _, _, [], _, [], hW', trodAll_mk1 (shut_bool Tryd.underlying4 _), (trodAll_cons_mk (Below.trod laidOut (by kernel_rfl) (of_decide_eq_true (by kernel_rfl)) h0 bel lt0) (trodAll_cons_mk (Below.trod laidOut (by kernel_rfl) (of_decide_eq_true (by kernel_rfl)) h1 bel lt1) trodAll_mk0)), rfl, bel.frame _, fun h => by cases h⟩

theorem over : Rows.FnExactHeaderFromSaid :=
  OpenClaim.holds_of_wide 3 Tryd.f3 rfl rfl rfl rfl rfl rfl rfl ⟨rfl, rfl, rfl, rfl, rfl⟩ rfl rfl rfl rfl rfl (by kernel_rfl) Tryd.func3 (by kernel_rfl)
    (of_decide_eq_true (by kernel_rfl)) (by unfold Func.isWrapper; first | (rw [if_pos (by decide +kernel)]; kernel_rfl) | (rw [if_neg (by decide +kernel)]; exact ⟨rfl, rfl⟩))
    (fun os started H enc _ => lifted os started H enc)

/-- THE STATEMENT -/
theorem proved : Rows.FnExactHeaderFromCardSaid :=
  Claim7.holds_tied_plain_at .later [] [.handle] true (true, "f2c3165d935d7055cbfed0928b62cc79c40ab9b59b194cd62da8f9fd35a1a633") true
    over (fun _ h => by cases h) (by kernel_rfl) (fun _ h => by cases h) fnExactHeaderFrom_row_tie rfl ⟨rfl, rfl⟩ (by kernel_rfl) rfl
    (fun f fn hf hfn => by
      obtain rfl : f = 3 := Option.some.inj ((show Tryd.prog.funcNamed "loop.example/mediarelay/laws.FnExactHeaderFrom" = some 3 by kernel_rfl).symm.trans hf) |>.symm
      obtain rfl : fn = Tryd.f3 := (Option.some.inj (Tryd.func3.symm.trans hfn)).symm
      exact ⟨by kernel_rfl, fun j t ht => by
        rw [Tryd.params3] at ht
        have hm : t ∈ [3, 22] := by simpa using Array.mem_of_getElem? ht
        have hall : ([3, 22].all fun u => !Tryd.prog.wantsStandIn u) = true := by kernel_rfl
        exact (show Tryd.prog.wantsStandIn t = false by simpa using List.all_eq_true.1 hall t hm)⟩)
    (by kernel_rfl)
#print axioms proved
end Go.Proofs.YtjpglpglgkopiaaDoor.fnExactHeaderFrom
