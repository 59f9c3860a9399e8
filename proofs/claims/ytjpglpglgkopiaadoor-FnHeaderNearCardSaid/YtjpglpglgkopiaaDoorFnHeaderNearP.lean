/-
  The statement FnHeaderNear: the law returns true for every input, and what was there before the call has not turned.
  No condition beyond the given statement.
-/
import Derived.Test.YtjpglpglgkopiaaDoorRows
import Derived.Test.YtjpglpglgkopiaaDoorTie
import Derived.Test.YtjpglpglgkopiaaDoorCards
import Derived.WalkKit
import Derived.ProofKit
import Derived.OpenShut
import Derived.ShutString
import Derived.ChangeOld
import Derived.Below
import Derived.Test.YtjpglpglgkopiaaDoorHdZ
import Derived.LaidMore
import Derived.Stop.Joined
import Derived.SevenTiedAt
import Derived.Test.YtjpglpglgkopiaaDoorErA
import Derived.Test.YtjpglpglgkopiaaDoorOpI
namespace Go.Proofs.YtjpglpglgkopiaaDoor.fnHeaderNear
open Go.ChangeShapes Go.WideShapes Go.ChangeAt Go.RowKit
set_option linter.unusedVariables false
set_option linter.unusedSimpArgs false

theorem own : ownKnob Tryd.prog.godebug = none := by kernel_rfl
theorem laidOut : laidOutB Tryd.prog = true := by kernel_rfl


/-! ### STEP 1: THE WALK -/
set_option maxHeartbeats 4000000 in
set_option maxRecDepth 100000 in
theorem walk (a0 : Option Addr) (len0 cap0 : Nat) (a1 : Option Addr) (len1 cap1 : Nat) (w : World) (hb0 : Bytes w w.heap.size a0 len0) (hn0 : len0 ≤ cap0) (hc0 : cap0 ≤ maxLen) (hb1 : Bytes w w.heap.size a1 len1) (hn1 : len1 ≤ cap1) (hc1 : cap1 ≤ maxLen) (hg : HgOk w) :
    Calls Tryd.prog 5 #[.slice a0 len0 cap0, .slice a1 len1 cap1] w fun e w' => e = .returned (.bool true) ∧ Below w.heap.size w w' := by
  have hcm := hc0
  unfold maxLen at hcm
  by_cases hbig : 1048576 < len0
  · have e1 : decide (1048576 < len0) = true := by simpa using hbig
    go_enter Tryd.func5, Tryd.ntmps5
    go_wp2
    go_ret
    exact ⟨rfl, Below.refl _ _⟩
  have e1 : decide (1048576 < len0) = false := by simpa using hbig
  by_cases hbig1 : 1048576 < len1
  · have e2 : decide (1048576 < len1) = true := by simpa using hbig1
    go_enter Tryd.func5, Tryd.ntmps5
    go_wp2
    go_ret
    exact ⟨rfl, Below.refl _ _⟩
  have e2 : decide (1048576 < len1) = false := by simpa using hbig1
  go_enter Tryd.func5, Tryd.ntmps5
  go_wp2_with fail
  refine (draw_hb a0 len0 cap0 _ hb0 hn0 hc0).mono ?_
  rintro e w1 ⟨x, rfl, hb1⟩
  have hbx := pk_new w1 (.cells #[.int .i64 x.wi, .int .i64 x.ti, .int .i64 x.la, .int .i64 x.si, .bool x.ky, .bool x.en] 24)
  have hP := Bk.new w1 24 #[.int .i64 x.wi, .int .i64 x.ti, .int .i64 x.la, .int .i64 x.si, .bool x.ky, .bool x.en]
  have hB1 := hb1.trans (hbx.mono hb1.size)
  have HG1 := Lib.hid (hg.below hB1 hg.lt)
  clear hb1 hbx hg
  (try clear hP_c0); (try clear hP_f0)
  (try clear hP_c1); (try clear hP_f1)
  (try clear hP_c2); (try clear hP_f2)
  (try clear hP_c3); (try clear hP_f3)
  (try clear hP_c4); (try clear hP_f4)
  (try clear hP_c5); (try clear hP_f5)
  (try clear hP_lt)
  have hP_lt := hP.lt; (try simp only [World.size_alloc] at hP_lt)
  have hP_c0 := hP.cell 0; have hP_f0 := hP.frozen 0
  have hP_c1 := hP.cell 1; have hP_f1 := hP.frozen 1
  have hP_c2 := hP.cell 2; have hP_f2 := hP.frozen 2
  have hP_c3 := hP.cell 3; have hP_f3 := hP.frozen 3
  have hP_c4 := hP.cell 4; have hP_f4 := hP.frozen 4
  have hP_c5 := hP.cell 5; have hP_f5 := hP.frozen 5
  simp only [List.getElem?_toArray, List.getElem?_cons_zero, List.getElem?_cons_succ] at hP_c0 hP_c1 hP_c2 hP_c3 hP_c4 hP_c5
  by_cases hk : pkOk x
  rotate_left
  · have HK := Lib.hid hk
    clear hk
    go_wp2_with fail
    refine (ihb_any x _).mono ?_
    rintro e w2 ⟨-, hn⟩
    obtain ⟨⟨A2, c2, rfl⟩, hb2⟩ := hn HK.out
    have hP2 := hP.below hb2 hP.lt
    have hB2 := hB1.trans (hb2.mono hB1.size)
    (try clear hP_c0); (try clear hP_f0)
    (try clear hP_c1); (try clear hP_f1)
    (try clear hP_c2); (try clear hP_f2)
    (try clear hP_c3); (try clear hP_f3)
    (try clear hP_c4); (try clear hP_f4)
    (try clear hP_c5); (try clear hP_f5)
    (try clear hP_lt)
    (try clear hP2_c0); (try clear hP2_f0)
    (try clear hP2_c1); (try clear hP2_f1)
    (try clear hP2_c2); (try clear hP2_f2)
    (try clear hP2_c3); (try clear hP2_f3)
    (try clear hP2_c4); (try clear hP2_f4)
    (try clear hP2_c5); (try clear hP2_f5)
    (try clear hP2_lt)
    have hP2_lt := hP2.lt; (try simp only [World.size_alloc] at hP2_lt)
    have hP2_c0 := hP2.cell 0; have hP2_f0 := hP2.frozen 0
    have hP2_c1 := hP2.cell 1; have hP2_f1 := hP2.frozen 1
    have hP2_c2 := hP2.cell 2; have hP2_f2 := hP2.frozen 2
    have hP2_c3 := hP2.cell 3; have hP2_f3 := hP2.frozen 3
    have hP2_c4 := hP2.cell 4; have hP2_f4 := hP2.frozen 4
    have hP2_c5 := hP2.cell 5; have hP2_f5 := hP2.frozen 5
    simp only [List.getElem?_toArray, List.getElem?_cons_zero, List.getElem?_cons_succ] at hP2_c0 hP2_c1 hP2_c2 hP2_c3 hP2_c4 hP2_c5
    clear hb2 hn
    go_wp2_with fail
    refine (shb_any x _).mono ?_
    rintro e w3 ⟨-, hn⟩
    obtain ⟨⟨A3, c3, rfl⟩, hb3⟩ := hn HK.out
    have hB3 := hB2.trans (hb3.mono hB2.size)
    (try clear hP2_c0); (try clear hP2_f0)
    (try clear hP2_c1); (try clear hP2_f1)
    (try clear hP2_c2); (try clear hP2_f2)
    (try clear hP2_c3); (try clear hP2_f3)
    (try clear hP2_c4); (try clear hP2_f4)
    (try clear hP2_c5); (try clear hP2_f5)
    (try clear hP2_lt)
    clear hb3 hn
    go_wp2_with fail
    refine (sameI_any _ _ 0 _ _ [] _ Ints.nil_ Ints.nil_ (by omega)).mono ?_
    rintro e w4 ⟨rfl, hb4⟩
    have hB4 := hB3.trans (hb4.mono hB3.size)
    clear hb4
    go_wp2_with fail
    refine (sameI_any _ _ 0 _ _ [] _ Ints.nil_ Ints.nil_ (by omega)).mono ?_
    rintro e w5 ⟨rfl, hb5⟩
    have hB5 := hB4.trans (hb5.mono hB4.size)
    go_wp2
    go_ret
    exact ⟨rfl, hB5⟩
  have HK := Lib.hid hk
  clear hk
  go_wp2_with fail
  refine (ihb_any x _).mono ?_
  rintro e w2 ⟨hy, -⟩
  obtain ⟨⟨A2, c2, rfl, hown2⟩, hb2⟩ := hy HK.out
  have hP2 := hP.below hb2 hP.lt
  have hB2 := hB1.trans (hb2.mono hB1.size)
  have HG2 := Lib.hid (HG1.out.step hb2)
  have HI2 := Lib.hid (ints_own hown2)
  (try clear hP_c0); (try clear hP_f0)
  (try clear hP_c1); (try clear hP_f1)
  (try clear hP_c2); (try clear hP_f2)
  (try clear hP_c3); (try clear hP_f3)
  (try clear hP_c4); (try clear hP_f4)
  (try clear hP_c5); (try clear hP_f5)
  (try clear hP_lt)
  (try clear hP2_c0); (try clear hP2_f0)
  (try clear hP2_c1); (try clear hP2_f1)
  (try clear hP2_c2); (try clear hP2_f2)
  (try clear hP2_c3); (try clear hP2_f3)
  (try clear hP2_c4); (try clear hP2_f4)
  (try clear hP2_c5); (try clear hP2_f5)
  (try clear hP2_lt)
  have hP2_lt := hP2.lt; (try simp only [World.size_alloc] at hP2_lt)
  have hP2_c0 := hP2.cell 0; have hP2_f0 := hP2.frozen 0
  have hP2_c1 := hP2.cell 1; have hP2_f1 := hP2.frozen 1
  have hP2_c2 := hP2.cell 2; have hP2_f2 := hP2.frozen 2
  have hP2_c3 := hP2.cell 3; have hP2_f3 := hP2.frozen 3
  have hP2_c4 := hP2.cell 4; have hP2_f4 := hP2.frozen 4
  have hP2_c5 := hP2.cell 5; have hP2_f5 := hP2.frozen 5
  simp only [List.getElem?_toArray, List.getElem?_cons_zero, List.getElem?_cons_succ] at hP2_c0 hP2_c1 hP2_c2 hP2_c3 hP2_c4 hP2_c5
  clear hb2 hy hown2 hP
  go_wp2_with fail
  refine (shb_any x _).mono ?_
  rintro e w3 ⟨hy, -⟩
  obtain ⟨⟨A3, c3, rfl, hown3⟩, hb3⟩ := hy HK.out
  have hP3 := hP2.below hb3 hP2.lt
  have hB3 := hB2.trans (hb3.mono hB2.size)
  have HG3 := Lib.hid (HG2.out.step hb3)
  have HI3 := Lib.hid (HI2.out.step hb3)
  have HJ3 := Lib.hid (ints_own hown3)
  (try clear hP2_c0); (try clear hP2_f0)
  (try clear hP2_c1); (try clear hP2_f1)
  (try clear hP2_c2); (try clear hP2_f2)
  (try clear hP2_c3); (try clear hP2_f3)
  (try clear hP2_c4); (try clear hP2_f4)
  (try clear hP2_c5); (try clear hP2_f5)
  (try clear hP2_lt)
  clear hb3 hy hown3 hP2
  go_wp2_with fail
  refine (sameI_any _ _ 8 _ _ (hB x) _ HI3.out HJ3.out (by omega)).mono ?_
  rintro e w4 ⟨rfl, hb4⟩
  have hP4 := hP3.below hb4 hP3.lt
  have hB4 := hB3.trans (hb4.mono hB3.size)
  have HG4 := Lib.hid (HG3.out.step hb4)
  have HI4 := Lib.hid (HI3.out.step hb4)
  clear hb4 hP3
  (try clear hP4_c0); (try clear hP4_f0)
  (try clear hP4_c1); (try clear hP4_f1)
  (try clear hP4_c2); (try clear hP4_f2)
  (try clear hP4_c3); (try clear hP4_f3)
  (try clear hP4_c4); (try clear hP4_f4)
  (try clear hP4_c5); (try clear hP4_f5)
  (try clear hP4_lt)
  have hP4_lt := hP4.lt; (try simp only [World.size_alloc] at hP4_lt)
  have hP4_c0 := hP4.cell 0; have hP4_f0 := hP4.frozen 0
  have hP4_c1 := hP4.cell 1; have hP4_f1 := hP4.frozen 1
  have hP4_c2 := hP4.cell 2; have hP4_f2 := hP4.frozen 2
  have hP4_c3 := hP4.cell 3; have hP4_f3 := hP4.frozen 3
  have hP4_c4 := hP4.cell 4; have hP4_f4 := hP4.frozen 4
  have hP4_c5 := hP4.cell 5; have hP4_f5 := hP4.frozen 5
  simp only [List.getElem?_toArray, List.getElem?_cons_zero, List.getElem?_cons_succ] at hP4_c0 hP4_c1 hP4_c2 hP4_c3 hP4_c4 hP4_c5
  obtain ⟨p1, p2, -, -, -, -, -, -⟩ := HK.out
  obtain ⟨d, hd0⟩ : ∃ d, (len1 * 997) % 60001 = d := ⟨_, rfl⟩
  have hd1 : d < 60001 := by rw [← hd0]; exact Nat.mod_lt _ (by omega)
  have hrem : Int.tmod ((len1 : Int) * 997) 60001 = (d : Int) := by rw [← hd0]; exact (Int.ofNat_tmod (len1 * 997) 60001).symm
  have hrem2 : ((len1 : Int) * 997) % 60001 = (d : Int) := by rw [← hd0]; omega
  have hl1 : len1 ≤ 1048576 := by omega
  obtain ⟨nr, hnr⟩ : ∃ nr, x.wi + (d : Int) - 30000 = nr := ⟨_, rfl⟩
  clear hd0
  by_cases g0 : nr < 0
  · have e3 : decide (nr < 0) = true := by simpa using g0
    go_wp2
    go_ret
    exact ⟨rfl, hB4⟩
  have e3 : decide (nr < 0) = false := by simpa using g0
  by_cases g1 : 999999 < nr
  · have e4 : decide (999999 < nr) = true := by simpa using g1
    go_wp2
    go_ret
    exact ⟨rfl, hB4⟩
  have e4 : decide (999999 < nr) = false := by simpa using g1
  have n0 : 0 ≤ nr := by omega
  have n1 : nr ≤ 999999 := by omega
  have n2 : -30000 ≤ x.wi - nr := by omega
  have n3 : x.wi - nr ≤ 30000 := by omega
  have HHD := Lib.hid (hd_hB HK.out n0 n1 n2 n3)
  clear n2 n3
  go_wp2_with fail
  refine (ihf_any nr 8 c2 A2 (hB x) _ HI4.out (by omega) HG4.out).mono ?_
  rintro e w5 ⟨hy, -⟩
  obtain ⟨rfl, hb5⟩ := hy x HHD.out
  have hP5 := hP4.below hb5 hP4.lt
  have hB5 := hB4.trans (hb5.mono hB4.size)
  have hl5 : w1.heap.size < w5.heap.size := hP5.lt
  (try clear hP4_c0); (try clear hP4_f0)
  (try clear hP4_c1); (try clear hP4_f1)
  (try clear hP4_c2); (try clear hP4_f2)
  (try clear hP4_c3); (try clear hP4_f3)
  (try clear hP4_c4); (try clear hP4_f4)
  (try clear hP4_c5); (try clear hP4_f5)
  (try clear hP4_lt)
  (try clear hP5_c0); (try clear hP5_f0)
  (try clear hP5_c1); (try clear hP5_f1)
  (try clear hP5_c2); (try clear hP5_f2)
  (try clear hP5_c3); (try clear hP5_f3)
  (try clear hP5_c4); (try clear hP5_f4)
  (try clear hP5_c5); (try clear hP5_f5)
  (try clear hP5_lt)
  have hP5_lt := hP5.lt; (try simp only [World.size_alloc] at hP5_lt)
  have hP5_c0 := hP5.cell 0; have hP5_f0 := hP5.frozen 0
  have hP5_c1 := hP5.cell 1; have hP5_f1 := hP5.frozen 1
  have hP5_c2 := hP5.cell 2; have hP5_f2 := hP5.frozen 2
  have hP5_c3 := hP5.cell 3; have hP5_f3 := hP5.frozen 3
  have hP5_c4 := hP5.cell 4; have hP5_f4 := hP5.frozen 4
  have hP5_c5 := hP5.cell 5; have hP5_f5 := hP5.frozen 5
  simp only [List.getElem?_toArray, List.getElem?_cons_zero, List.getElem?_cons_succ] at hP5_c0 hP5_c1 hP5_c2 hP5_c3 hP5_c4 hP5_c5
  clear hy hb5 hP4
  go_wp2
  go_ret
  exact ⟨rfl, hB5.alloc hB5.size _⟩

set_option maxRecDepth 100000 in
theorem lifted (os : Os) (started : os.Started) (H : Type) (enc : TypeId × Value → H) :
    ReturnsInHanded {} Tryd.checked os 5 .any (fun w args => (Rows.fnHeaderNearSpec.pre enc Tryd.prog Tryd.f5 [] false w args ∧ laidMetH Tryd.prog Rows.fnHeaderNearRow.laid w) ∧ sizedMet enc Tryd.prog Tryd.f5 (OpenSpec.ofChange Rows.fnHeaderNearSpec) false w args)
      (Rows.fnHeaderNearSpec.post enc Tryd.prog Tryd.f5 false true false false) := by
  refine returnsInHanded_of_change_and (C := Tryd.checked) (X := fun w _ => laidMetH Tryd.prog Rows.fnHeaderNearRow.laid w) (fun _ _ _ hh h => h.of_heap hh) own started (by kernel_rfl) Tryd.func5
    (ChangeSpec.witness_at (enc := enc) (C := Tryd.checked) (os := os) (X := fun w _ => laidMetH Tryd.prog Rows.fnHeaderNearRow.laid w) false (laidWorld os) #[.slice none 0 0, .slice none 0 0] 8 rfl (by kernel_rfl) (by kernel_rfl) (by kernel_rfl) (by kernel_rfl) (by kernel_rfl) (laidWorld_met os _)) ?_
  intro W base args ds gs before hval0 hW _ _ hL _
  have hg : HgOk W := handle_of_laid hL
  have hval : ∀ (j : Nat) t v, Tryd.f5.params[j]? = some t → args[j]? = some v → Value.okWide Tryd.prog W .any base t v := hval0
  have hW' := hW
  obtain ⟨p, q, hA0, hV, rfl, hfz, hnd⟩ := hW
  have hA : DataW.TrodAll enc Tryd.prog W 0 (fun _ => true) true Tryd.f5.params.toList args.toList ds p := hA0
  rw [Tryd.params5] at hA hval
  obtain ⟨v0, vs0, d0, ds0, p0, q0, hargs, rfl, rfl, h0, r0⟩ := trodAll_cons hA
  obtain ⟨v1, vs1, d1, ds1, p1, q1, rfl, rfl, rfl, h1, r1⟩ := trodAll_cons r0
  obtain ⟨rfl, rfl, rfl⟩ := trodAll_nil r1
  obtain rfl : args = #[v0, v1] := by cases args; simp_all
  obtain ⟨rfl, rfl⟩ := trodVars_none hV
  obtain ⟨a0, len0, cap0, rfl, hb0, hn0, hc0⟩ := open_bytesI (hval 0 31 v0 rfl rfl) h0
  obtain ⟨a1, len1, cap1, rfl, hb1, hn1, hc1⟩ := open_bytesI (hval 1 31 v1 rfl rfl) h1
  have lt0 : ∀ x ∈ p0, x.block < W.heap.size := by obtain ⟨m, hm⟩ := h0; exact DataW.trod_lt m _ _ _ hm
  have lt1 : ∀ x ∈ p1, x.block < W.heap.size := by obtain ⟨m, hm⟩ := h1; exact DataW.trod_lt m _ _ _ hm
  clear hA0 hval0
  refine (walk a0 len0 cap0 a1 len1 cap1 W hb0 hn0 hc0 hb1 hn1 hc1 hg).mono fun e W' ⟨he, bel⟩ => ?_
  subst he
  exact ⟨_, rfl, _, _, _, [], _, [], hW', trodAll_mk1 (shut_bool Tryd.underlying4 _), (trodAll_cons_mk (Below.trod laidOut (by kernel_rfl) (of_decide_eq_true (by kernel_rfl)) h0 bel lt0) (trodAll_cons_mk (Below.trod laidOut (by kernel_rfl) (of_decide_eq_true (by kernel_rfl)) h1 bel lt1) trodAll_mk0)), rfl, bel.frame _, fun h => by cases h⟩

theorem over : Rows.FnHeaderNearSaid :=
  OpenClaim.holds_of_wide 5 Tryd.f5 rfl rfl rfl rfl rfl rfl rfl ⟨rfl, rfl, rfl, rfl, rfl⟩ rfl rfl rfl rfl rfl (by kernel_rfl) Tryd.func5 (by kernel_rfl)
    (of_decide_eq_true (by kernel_rfl)) (by unfold Func.isWrapper; first | (rw [if_pos (by decide +kernel)]; kernel_rfl) | (rw [if_neg (by decide +kernel)]; exact ⟨rfl, rfl⟩))
    (fun os started H enc _ => lifted os started H enc)

/-- THE STATEMENT -/
theorem proved : Rows.FnHeaderNearCardSaid :=
  Claim7.holds_tied_plain_at .later [] [.handle] true (true, "f2c3165d935d7055cbfed0928b62cc79c40ab9b59b194cd62da8f9fd35a1a633") true
    over (fun _ h => by cases h) (by kernel_rfl) (fun _ h => by cases h) fnHeaderNear_row_tie rfl ⟨rfl, rfl⟩ (by kernel_rfl) rfl
    (fun f fn hf hfn => by
      obtain rfl : f = 5 := Option.some.inj ((show Tryd.prog.funcNamed "loop.example/mediarelay/laws.FnHeaderNear" = some 5 by kernel_rfl).symm.trans hf) |>.symm
      obtain rfl : fn = Tryd.f5 := (Option.some.inj (Tryd.func5.symm.trans hfn)).symm
      exact ⟨by kernel_rfl, fun j t ht => by
        rw [Tryd.params5] at ht
        have hm : t ∈ [31, 31] := by simpa using Array.mem_of_getElem? ht
        have hall : ([31, 31].all fun u => !Tryd.prog.wantsStandIn u) = true := by kernel_rfl
        exact (show Tryd.prog.wantsStandIn t = false by simpa using List.all_eq_true.1 hall t hm)⟩)
    (by kernel_rfl)
#print axioms proved
end Go.Proofs.YtjpglpglgkopiaaDoor.fnHeaderNear
