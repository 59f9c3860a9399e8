/-
  The statement FnHeaderFrom: the law returns true for every input, and what was there before the call has not turned.
  No condition beyond the given statement.
-/
import Derived.Test.YtjpglpglgkopiaaDoorRows
import Derived.Test.YtjpglpglgkopiaaDoorTie
import Derived.Test.YtjpglpglgkopiaaDoorCards
import Derived.WalkKit
import Derived.ProofKit
import Derived.OpenShut
import Derived.ShutString
import Derived.ChangeOld
import Derived.Below
import Derived.Test.YtjpglpglgkopiaaDoorHdZ
import Derived.LaidMore
import Derived.Stop.Joined
import Derived.SevenTiedAt
import Derived.Test.YtjpglpglgkopiaaDoorErA
import Derived.Test.YtjpglpglgkopiaaDoorOpI
namespace Go.Proofs.YtjpglpglgkopiaaDoor.fnHeaderFrom
open Go.ChangeShapes Go.WideShapes Go.ChangeAt Go.RowKit
set_option linter.unusedVariables false
set_option linter.unusedSimpArgs false

theorem own : ownKnob Tryd.prog.godebug = none := by kernel_rfl
theorem laidOut : laidOutB Tryd.prog = true := by kernel_rfl


/-! ### STEP 1: THE WALK -/
set_option maxHeartbeats 4000000 in
set_option maxRecDepth 100000 in
theorem walk (a0 : Option Addr) (len0 cap0 : Nat) (w : World) (hb0 : Bytes w w.heap.size a0 len0) (hn0 : len0 ≤ cap0) (hc0 : cap0 ≤ maxLen) (hg : HgOk w) :
    Calls Tryd.prog 7 #[.slice a0 len0 cap0] w fun e w' => e = .returned (.bool true) ∧ Below w.heap.size w w' := by
  have hcm := hc0
  unfold maxLen at hcm
  by_cases hbig : 1048576 < len0
  · have e1 : decide (1048576 < len0) = true := by simpa using hbig
    go_enter Tryd.func7, Tryd.ntmps7
    go_wp2
    go_ret
    exact ⟨rfl, Below.refl _ _⟩
  have e1 : decide (1048576 < len0) = false := by simpa using hbig
  go_enter Tryd.func7, Tryd.ntmps7
  go_wp2_with fail
  refine (draw_hv a0 len0 cap0 _ hb0 hn0 hc0).mono ?_
  rintro e w1 ⟨near, A, n, c, zs, rfl, hz1, hnc, hcm1, hn1000, hb1⟩
  have HG1 := Lib.hid (hg.below hb1 hg.lt)
  have HZ1 := Lib.hid hz1
  clear hg hz1
  cases hq : hd near zs with
  | none =>
    have HQ := Lib.hid hq
    clear hq
    go_wp2_with fail
    refine (ihf_any near n c A zs _ HZ1.out (by omega) HG1.out).mono ?_
    rintro e w2 ⟨-, hx⟩
    obtain ⟨rfl, hb2⟩ := hx HQ.out
    have hbx := pk_new w2 (.cells #[.int .i64 0, .int .i64 0, .int .i64 0, .int .i64 0, .bool false, .bool false] 24)
    have hP := Bk.new w2 24 #[.int .i64 0, .int .i64 0, .int .i64 0, .int .i64 0, .bool false, .bool false]
    have hB2 := hb1.trans (hb2.mono hb1.size)
    have hB3 := hB2.trans (hbx.mono hB2.size)
    have HZ3 := Lib.hid ((HZ1.out.step hb2).step hbx)
    clear hx hb2 hbx hB2 HG1
    go_wp2_with fail
    refine (shf_any near n c A zs _ HZ3.out (by omega)).mono ?_
    rintro e w4 ⟨-, hx⟩
    obtain ⟨rfl, hb4⟩ := hx HQ.out
    have hP4 := hP.below hb4 hP.lt
    have hB4 := hB3.trans (hb4.mono hB3.size)
    have hl4 : w2.heap.size < w4.heap.size := hP4.lt
    clear hx hb4 hP
    (try clear hP4_c0); (try clear hP4_f0)
    (try clear hP4_c1); (try clear hP4_f1)
    (try clear hP4_c2); (try clear hP4_f2)
    (try clear hP4_c3); (try clear hP4_f3)
    (try clear hP4_c4); (try clear hP4_f4)
    (try clear hP4_c5); (try clear hP4_f5)
    (try clear hP4_lt)
    have hP4_lt := hP4.lt; (try simp only [World.size_alloc] at hP4_lt)
    have hP4_c0 := hP4.cell 0; have hP4_f0 := hP4.frozen 0
    have hP4_c1 := hP4.cell 1; have hP4_f1 := hP4.frozen 1
    have hP4_c2 := hP4.cell 2; have hP4_f2 := hP4.frozen 2
    have hP4_c3 := hP4.cell 3; have hP4_f3 := hP4.frozen 3
    have hP4_c4 := hP4.cell 4; have hP4_f4 := hP4.frozen 4
    have hP4_c5 := hP4.cell 5; have hP4_f5 := hP4.frozen 5
    simp only [List.getElem?_toArray, List.getElem?_cons_zero, List.getElem?_cons_succ] at hP4_c0 hP4_c1 hP4_c2 hP4_c3 hP4_c4 hP4_c5
    go_wp2
    go_ret
    exact ⟨rfl, hB4.alloc hB4.size _⟩
  | some x =>
    have HQ := Lib.hid hq
    obtain ⟨b0, b1, b2, b3, b4, b5, b6, b7, rfl, -, -⟩ := hd_some hq
    obtain rfl : n = 8 := by have := HZ1.out.len; simpa using this.symm
    clear hq
    go_wp2_with fail
    refine (ihf_any near 8 c A _ _ HZ1.out (by omega) HG1.out).mono ?_
    rintro e w2 ⟨hy, -⟩
    obtain ⟨rfl, hb2⟩ := hy x HQ.out
    have hbx := pk_new w2 (.cells #[.int .i64 x.wi, .int .i64 x.ti, .int .i64 x.la, .int .i64 x.si, .bool x.ky, .bool x.en] 24)
    have hP := Bk.new w2 24 #[.int .i64 x.wi, .int .i64 x.ti, .int .i64 x.la, .int .i64 x.si, .bool x.ky, .bool x.en]
    have hB2 := hb1.trans (hb2.mono hb1.size)
    have hB3 := hB2.trans (hbx.mono hB2.size)
    have HZ3 := Lib.hid ((HZ1.out.step hb2).step hbx)
    have HG3 := Lib.hid ((HG1.out.step hb2).step hbx)
    clear hy hb2 hbx hB2 HG1
    go_wp2_with fail
    refine (shf_any near 8 c A _ _ HZ3.out (by omega)).mono ?_
    rintro e w4 ⟨hy, -⟩
    obtain ⟨rfl, hb4⟩ := hy x HQ.out
    have hP4 := hP.below hb4 hP.lt
    have hB4 := hB3.trans (hb4.mono hB3.size)
    have hl4 : w2.heap.size < w4.heap.size := hP4.lt
    have hby := pk_new w4 (.cells #[.int .i64 x.wi, .int .i64 x.ti, .int .i64 x.la, .int .i64 x.si, .bool x.ky, .bool x.en] 24)
    have hB5 := hB4.trans (hby.mono hB4.size)
    have HZ5 := Lib.hid ((HZ3.out.step hb4).step hby)
    have HG5 := Lib.hid ((HG3.out.step hb4).step hby)
    clear hy hb4 hP hby hB3 HG3
    (try clear hP4_c0); (try clear hP4_f0)
    (try clear hP4_c1); (try clear hP4_f1)
    (try clear hP4_c2); (try clear hP4_f2)
    (try clear hP4_c3); (try clear hP4_f3)
    (try clear hP4_c4); (try clear hP4_f4)
    (try clear hP4_c5); (try clear hP4_f5)
    (try clear hP4_lt)
    have hP4_lt := hP4.lt; (try simp only [World.size_alloc] at hP4_lt)
    have hP4_c0 := hP4.cell 0; have hP4_f0 := hP4.frozen 0
    have hP4_c1 := hP4.cell 1; have hP4_f1 := hP4.frozen 1
    have hP4_c2 := hP4.cell 2; have hP4_f2 := hP4.frozen 2
    have hP4_c3 := hP4.cell 3; have hP4_f3 := hP4.frozen 3
    have hP4_c4 := hP4.cell 4; have hP4_f4 := hP4.frozen 4
    have hP4_c5 := hP4.cell 5; have hP4_f5 := hP4.frozen 5
    simp only [List.getElem?_toArray, List.getElem?_cons_zero, List.getElem?_cons_succ] at hP4_c0 hP4_c1 hP4_c2 hP4_c3 hP4_c4 hP4_c5
    have hP5 := hP4.alloc (.cells #[.int .i64 x.wi, .int .i64 x.ti, .int .i64 x.la, .int .i64 x.si, .bool x.ky, .bool x.en] 24)
    have HPK := Lib.hid (hd_pk HQ.out)
    have HBK := Lib.hid (hd_back HQ.out)
    go_wp2_with fail
    refine (ihb_any x _).mono ?_
    rintro e w6 ⟨hy, -⟩
    obtain ⟨⟨A6, c6, rfl, hown6⟩, hb6⟩ := hy HPK.out
    rw [HBK.out] at hown6
    have hP6 := hP5.below hb6 hP5.lt
    have hB6 := hB5.trans (hb6.mono hB5.size)
    have HZ6 := Lib.hid (HZ5.out.step hb6)
    have HI6 := Lib.hid (ints_own hown6)
    (try clear hP4_c0); (try clear hP4_f0)
    (try clear hP4_c1); (try clear hP4_f1)
    (try clear hP4_c2); (try clear hP4_f2)
    (try clear hP4_c3); (try clear hP4_f3)
    (try clear hP4_c4); (try clear hP4_f4)
    (try clear hP4_c5); (try clear hP4_f5)
    (try clear hP4_lt)
    clear hy hown6 hb6 hP4 hP5 HZ5 HG5
    (try clear hP6_c0); (try clear hP6_f0)
    (try clear hP6_c1); (try clear hP6_f1)
    (try clear hP6_c2); (try clear hP6_f2)
    (try clear hP6_c3); (try clear hP6_f3)
    (try clear hP6_c4); (try clear hP6_f4)
    (try clear hP6_c5); (try clear hP6_f5)
    (try clear hP6_lt)
    have hP6_lt := hP6.lt; (try simp only [World.size_alloc] at hP6_lt)
    have hP6_c0 := hP6.cell 0; have hP6_f0 := hP6.frozen 0
    have hP6_c1 := hP6.cell 1; have hP6_f1 := hP6.frozen 1
    have hP6_c2 := hP6.cell 2; have hP6_f2 := hP6.frozen 2
    have hP6_c3 := hP6.cell 3; have hP6_f3 := hP6.frozen 3
    have hP6_c4 := hP6.cell 4; have hP6_f4 := hP6.frozen 4
    have hP6_c5 := hP6.cell 5; have hP6_f5 := hP6.frozen 5
    simp only [List.getElem?_toArray, List.getElem?_cons_zero, List.getElem?_cons_succ] at hP6_c0 hP6_c1 hP6_c2 hP6_c3 hP6_c4 hP6_c5
    go_wp2_with fail
    refine (ipk_any x _).mono ?_
    rintro e w7 ⟨rfl, hb7⟩
    rw [show pkB x = true from decide_eq_true HPK.out]
    have hB7 := hB6.trans (hb7.mono hB6.size)
    have HZ7 := Lib.hid (HZ6.out.step hb7)
    have HI7 := Lib.hid (HI6.out.step hb7)
    (try clear hP6_c0); (try clear hP6_f0)
    (try clear hP6_c1); (try clear hP6_f1)
    (try clear hP6_c2); (try clear hP6_f2)
    (try clear hP6_c3); (try clear hP6_f3)
    (try clear hP6_c4); (try clear hP6_f4)
    (try clear hP6_c5); (try clear hP6_f5)
    (try clear hP6_lt)
    clear hb7 hP6 HZ6 HI6
    go_wp2_with fail
    refine (sameI_any _ _ 8 _ _ _ _ HI7.out HZ7.out (by omega)).mono ?_
    rintro e w8 ⟨rfl, hb8⟩
    have hB8 := hB7.trans (hb8.mono hB7.size)
    go_wp2
    go_ret
    exact ⟨rfl, hB8⟩

set_option maxRecDepth 100000 in
theorem lifted (os : Os) (started : os.Started) (H : Type) (enc : TypeId × Value → H) :
    ReturnsInHanded {} Tryd.checked os 7 .any (fun w args => (Rows.fnHeaderFromSpec.pre enc Tryd.prog Tryd.f7 [] false w args ∧ laidMetH Tryd.prog Rows.fnHeaderFromRow.laid w) ∧ sizedMet enc Tryd.prog Tryd.f7 (OpenSpec.ofChange Rows.fnHeaderFromSpec) false w args)
      (Rows.fnHeaderFromSpec.post enc Tryd.prog Tryd.f7 false true false false) := by
  refine returnsInHanded_of_change_and (C := Tryd.checked) (X := fun w _ => laidMetH Tryd.prog Rows.fnHeaderFromRow.laid w) (fun _ _ _ hh h => h.of_heap hh) own started (by kernel_rfl) Tryd.func7
    (ChangeSpec.witness_at (enc := enc) (C := Tryd.checked) (os := os) (X := fun w _ => laidMetH Tryd.prog Rows.fnHeaderFromRow.laid w) false (laidWorld os) #[.slice none 0 0] 8 rfl (by kernel_rfl) (by kernel_rfl) (by kernel_rfl) (by kernel_rfl) (by kernel_rfl) (laidWorld_met os _)) ?_
  intro W base args ds gs before hval0 hW _ _ hL _
  have hg : HgOk W := handle_of_laid hL
  have hval : ∀ (j : Nat) t v, Tryd.f7.params[j]? = some t → args[j]? = some v → Value.okWide Tryd.prog W .any base t v := hval0
  have hW' := hW
  obtain ⟨p, q, hA0, hV, rfl, hfz, hnd⟩ := hW
  have hA : DataW.TrodAll enc Tryd.prog W 0 (fun _ => true) true Tryd.f7.params.toList args.toList ds p := hA0
  rw [Tryd.params7] at hA hval
  obtain ⟨v0, vs0, d0, ds0, p0, q0, hargs, rfl, rfl, h0, r0⟩ := trodAll_cons hA
  obtain ⟨rfl, rfl, rfl⟩ := trodAll_nil r0
  obtain rfl : args = #[v0] := by cases args; simp_all
  obtain ⟨rfl, rfl⟩ := trodVars_none hV
  obtain ⟨a0, len0, cap0, rfl, hb0, hn0, hc0⟩ := open_bytesI (hval 0 31 v0 rfl rfl) h0
  have lt0 : ∀ x ∈ p0, x.block < W.heap.size := by obtain ⟨m, hm⟩ := h0; exact DataW.trod_lt m _ _ _ hm
  clear hA0 hval0
  refine (walk a0 len0 cap0 W hb0 hn0 hc0 hg).mono fun e W' ⟨he, bel⟩ => ?_
  subst he
  exact ⟨_, rfl, _, _, _, [], _, [], hW', trodAll_mk1 (shut_bool Tryd.underlying4 _), (trodAll_cons_mk (Below.trod laidOut (by kernel_rfl) (of_decide_eq_true (by kernel_rfl)) h0 bel lt0) trodAll_mk0), rfl, bel.frame _, fun h => by cases h⟩

theorem over : Rows.FnHeaderFromSaid :=
  OpenClaim.holds_of_wide 7 Tryd.f7 rfl rfl rfl rfl rfl rfl rfl ⟨rfl, rfl, rfl, rfl, rfl⟩ rfl rfl rfl rfl rfl (by kernel_rfl) Tryd.func7 (by kernel_rfl)
    (of_decide_eq_true (by kernel_rfl)) (by unfold Func.isWrapper; first | (rw [if_pos (by decide +kernel)]; kernel_rfl) | (rw [if_neg (by decide +kernel)]; exact ⟨rfl, rfl⟩))
    (fun os started H enc _ => lifted os started H enc)

/-- THE STATEMENT -/
theorem proved : Rows.FnHeaderFromCardSaid :=
  Claim7.holds_tied_plain_at .later [] [.handle] true (true, "f2c3165d935d7055cbfed0928b62cc79c40ab9b59b194cd62da8f9fd35a1a633") true
    over (fun _ h => by cases h) (by kernel_rfl) (fun _ h => by cases h) fnHeaderFrom_row_tie rfl ⟨rfl, rfl⟩ (by kernel_rfl) rfl
    (fun f fn hf hfn => by
      obtain rfl : f = 7 := Option.some.inj ((show Tryd.prog.funcNamed "loop.example/mediarelay/laws.FnHeaderFrom" = some 7 by kernel_rfl).symm.trans hf) |>.symm
      obtain rfl : fn = Tryd.f7 := (Option.some.inj (Tryd.func7.symm.trans hfn)).symm
      exact ⟨by kernel_rfl, fun j t ht => by
        rw [Tryd.params7] at ht
        have hm : t ∈ [31] := by simpa using Array.mem_of_getElem? ht
        have hall : ([31].all fun u => !Tryd.prog.wantsStandIn u) = true := by kernel_rfl
        exact (show Tryd.prog.wantsStandIn t = false by simpa using List.all_eq_true.1 hall t hm)⟩)
    (by kernel_rfl)
#print axioms proved
end Go.Proofs.YtjpglpglgkopiaaDoor.fnHeaderFrom
