/-
  The statement FnHeadersFrom: the law returns true for every input, and what was there before the call has not turned.
  No condition beyond the given statement.
-/
import Derived.Test.YtjpglpglgkopiaaDoorRows
import Derived.Test.YtjpglpglgkopiaaDoorTie
import Derived.Test.YtjpglpglgkopiaaDoorCards
import Derived.WalkKit
import Derived.ProofKit
import Derived.OpenShut
import Derived.ShutString
import Derived.ChangeOld
import Derived.Below
import Derived.Test.YtjpglpglgkopiaaDoorHdZ
import Derived.LaidMore
import Derived.Stop.Joined
import Derived.SevenTiedAt
import Derived.Test.YtjpglpglgkopiaaDoorErA
import Derived.Test.YtjpglpglgkopiaaDoorOpI
namespace Go.Proofs.YtjpglpglgkopiaaDoor.fnHeadersFrom
open Go.ChangeShapes Go.WideShapes Go.ChangeAt Go.RowKit
set_option linter.unusedVariables false
set_option linter.unusedSimpArgs false

theorem own : ownKnob Tryd.prog.godebug = none := by kernel_rfl
theorem laidOut : laidOutB Tryd.prog = true := by kernel_rfl


/-! ### STEP 1: THE WALK -/
set_option maxHeartbeats 4000000 in
set_option maxRecDepth 100000 in
theorem walk (a0 : Option Addr) (len0 cap0 : Nat) (w : World) (hb0 : Bytes w w.heap.size a0 len0) (hn0 : len0 ≤ cap0) (hc0 : cap0 ≤ maxLen) (hg : HgOk w) :
    Calls Tryd.prog 11 #[.slice a0 len0 cap0] w fun e w' => e = .returned (.bool true) ∧ Below w.heap.size w w' := by
  have hcm := hc0
  unfold maxLen at hcm
  by_cases hbig : 1048576 < len0
  · have e1 : decide (1048576 < len0) = true := by simpa using hbig
    go_enter Tryd.func11, Tryd.ntmps11
    go_wp2
    go_ret
    exact ⟨rfl, Below.refl _ _⟩
  have e1 : decide (1048576 < len0) = false := by simpa using hbig
  go_enter Tryd.func11, Tryd.ntmps11
  go_wp2_with fail
  refine (draw_hx a0 len0 cap0 _ hb0 hn0 hc0).mono ?_
  rintro e w1 ⟨near, A, n, c, zs, rfl, hz1, hnc, hcm1, hn1000, hb1⟩
  have HG1 := Lib.hid (hg.below hb1 hg.lt)
  have HZ1 := Lib.hid hz1
  clear hg hz1
  cases hq : hsR near zs with
  | none =>
    have HQ := Lib.hid hq
    clear hq
    go_wp2_with fail
    refine (ihx_any near n c A zs _ HZ1.out (by omega) HG1.out).mono ?_
    rintro e w2 ⟨-, hx⟩
    obtain ⟨⟨A2, c2, rfl⟩, hb2⟩ := hx HQ.out
    have hB2 := hb1.trans (hb2.mono hb1.size)
    have HZ2 := Lib.hid (HZ1.out.step hb2)
    clear hx hb2 HG1
    go_wp2_with fail
    refine (shx_any near n c A zs _ HZ2.out (by omega) hnc hcm1).mono ?_
    rintro e w4 ⟨-, hx⟩
    obtain ⟨⟨A4, c4, rfl⟩, hb4⟩ := hx HQ.out
    have hB4 := hB2.trans (hb4.mono hB2.size)
    clear hx hb4
    go_wp2_with fail
    refine (sameK_any _ _ 0 _ _ [] _ Pks.none_ Pks.none_ (by omega)).mono ?_
    rintro e w5 ⟨rfl, hb5⟩
    have hB5 := hB4.trans (hb5.mono hB4.size)
    clear hb5
    go_wp2_with fail
    refine (sameK_any _ _ 0 _ _ [] _ Pks.none_ Pks.none_ (by omega)).mono ?_
    rintro e w6 ⟨rfl, hb6⟩
    have hB6 := hB5.trans (hb6.mono hB5.size)
    go_wp2
    go_ret
    exact ⟨rfl, hB6⟩
  | some ps =>
    have HQ := Lib.hid hq
    have HR := Lib.hid (hsR_some hq)
    clear hq
    have hn20 : ps.length ≤ 20 := HR.out.2.2.1
    go_wp2_with fail
    refine (ihx_any near n c A _ _ HZ1.out (by omega) HG1.out).mono ?_
    rintro e w2 ⟨hy, -⟩
    obtain ⟨⟨A2, c2, rfl, hown2⟩, hb2⟩ := hy ps HQ.out
    have hB2 := hb1.trans (hb2.mono hb1.size)
    have HZ2 := Lib.hid (HZ1.out.step hb2)
    have HG2 := Lib.hid (HG1.out.step hb2)
    have HP2 := Lib.hid (pks_own hown2)
    obtain ⟨_, _, he2, h2c, h2m, -⟩ := own_shape hown2
    injection he2 with he2a _ he2c
    subst he2a he2c
    clear hy hb2 hown2 HG1
    go_wp2_with fail
    refine (shx_any near n c A _ _ HZ2.out (by omega) hnc hcm1).mono ?_
    rintro e w4 ⟨hy, -⟩
    obtain ⟨⟨A4, c4, rfl, hown4⟩, hb4⟩ := hy ps HQ.out
    have hB4 := hB2.trans (hb4.mono hB2.size)
    have HZ4 := Lib.hid (HZ2.out.step hb4)
    have HG4 := Lib.hid (HG2.out.step hb4)
    have HP4 := Lib.hid ((HP2.out.below hb4).more hb4.size)
    have HR4 := Lib.hid (pks_own hown4)
    clear hy hb4 hown4 HG2
    obtain ⟨m, hm⟩ : ∃ m, ps.length = m := ⟨_, rfl⟩
    have HM := Lib.hid hm
    rw [hm] at HP4 HR4 hn20 h2c ⊢
    clear hm
    go_wp2_with fail
    refine (sameK_any _ _ m _ _ ps _ HP4.out HR4.out (by omega)).mono ?_
    rintro e w5 ⟨rfl, hb5⟩
    have hB5 := hB4.trans (hb5.mono hB4.size)
    have HZ5 := Lib.hid (HZ4.out.step hb5)
    have HG5 := Lib.hid (HG4.out.step hb5)
    have HP5 := Lib.hid ((HP4.out.below hb5).more hb5.size)
    have HR5 := Lib.hid ((HR4.out.below hb5).more hb5.size)
    clear hb5 HZ4 HG4 HP4 HR4
    have HOK := Lib.hid HR.out.1
    have hzl := HZ5.out.len
    have hn8 : n = 8 * m := by have := HR.out.2.1; rw [HM.out] at this; omega
    subst hn8
    have HBK := Lib.hid (show ps.flatMap hB = zs from hs_back HR.out.2.2.2)
    clear hzl HQ HR
    go_wp2_with fail
    refine (ihm_any _ m _ ps _ HP5.out (by omega)).mono ?_
    rintro e w6 ⟨hy, -⟩
    obtain ⟨⟨A6, c6, rfl, hown6⟩, hb6⟩ := hy HOK.out
    rw [HBK.out] at hown6
    have hB6 := hB5.trans (hb6.mono hB5.size)
    have HZ6 := Lib.hid (HZ5.out.step hb6)
    have HP6 := Lib.hid ((HP5.out.below hb6).more hb6.size)
    have HX6 := Lib.hid (ints_own hown6)
    clear hy hb6 hown6
    go_wp2_with fail
    refine (ips_any _ m _ ps _ HP6.out (by omega)).mono ?_
    rintro e w7 ⟨rfl, hb7⟩
    rw [show psB ps = true from psB_true.2 HOK.out]
    have hB7 := hB6.trans (hb7.mono hB6.size)
    have HZ7 := Lib.hid (HZ6.out.step hb7)
    have HX7 := Lib.hid (HX6.out.step hb7)
    clear hb7
    have e5 : ((8 : Int) * (m : Int) == ((8 * m : Nat) : Int)) = true := by simp
    have e6 : ((8 * m : Nat) == 8 * m) = true := by simp
    go_wp2_with fail
    refine (sameI_any _ _ (8 * m) _ _ _ _ HX7.out HZ7.out (by omega)).mono ?_
    rintro e w8 ⟨rfl, hb8⟩
    have hB8 := hB7.trans (hb8.mono hB7.size)
    go_wp2
    go_ret
    exact ⟨rfl, hB8⟩

set_option maxRecDepth 100000 in
theorem lifted (os : Os) (started : os.Started) (H : Type) (enc : TypeId × Value → H) :
    ReturnsInHanded {} Tryd.checked os 11 .any (fun w args => (Rows.fnHeadersFromSpec.pre enc Tryd.prog Tryd.f11 [] false w args ∧ laidMetH Tryd.prog Rows.fnHeadersFromRow.laid w) ∧ sizedMet enc Tryd.prog Tryd.f11 (OpenSpec.ofChange Rows.fnHeadersFromSpec) false w args)
      (Rows.fnHeadersFromSpec.post enc Tryd.prog Tryd.f11 false true false false) := by
  refine returnsInHanded_of_change_and (C := Tryd.checked) (X := fun w _ => laidMetH Tryd.prog Rows.fnHeadersFromRow.laid w) (fun _ _ _ hh h => h.of_heap hh) own started (by kernel_rfl) Tryd.func11
    (ChangeSpec.witness_at (enc := enc) (C := Tryd.checked) (os := os) (X := fun w _ => laidMetH Tryd.prog Rows.fnHeadersFromRow.laid w) false (laidWorld os) #[.slice none 0 0] 8 rfl (by kernel_rfl) (by kernel_rfl) (by kernel_rfl) (by kernel_rfl) (by kernel_rfl) (laidWorld_met os _)) ?_
  intro W base args ds gs before hval0 hW _ _ hL _
  have hg : HgOk W := handle_of_laid hL
  have hval : ∀ (j : Nat) t v, Tryd.f11.params[j]? = some t → args[j]? = some v → Value.okWide Tryd.prog W .any base t v := hval0
  have hW' := hW
  obtain ⟨p, q, hA0, hV, rfl, hfz, hnd⟩ := hW
  have hA : DataW.TrodAll enc Tryd.prog W 0 (fun _ => true) true Tryd.f11.params.toList args.toList ds p := hA0
  rw [Tryd.params11] at hA hval
  obtain ⟨v0, vs0, d0, ds0, p0, q0, hargs, rfl, rfl, h0, r0⟩ := trodAll_cons hA
  obtain ⟨rfl, rfl, rfl⟩ := trodAll_nil r0
  obtain rfl : args = #[v0] := by cases args; simp_all
  obtain ⟨rfl, rfl⟩ := trodVars_none hV
  obtain ⟨a0, len0, cap0, rfl, hb0, hn0, hc0⟩ := open_bytesI (hval 0 31 v0 rfl rfl) h0
  have lt0 : ∀ x ∈ p0, x.block < W.heap.size := by obtain ⟨m, hm⟩ := h0; exact DataW.trod_lt m _ _ _ hm
  clear hA0 hval0
  refine (walk a0 len0 cap0 W hb0 hn0 hc0 hg).mono fun e W' ⟨he, bel⟩ => ?_
  subst he
  exact ⟨_, rfl, _, _, _, [], _, [], hW', trodAll_mk1 (shut_bool Tryd.underlying4 _), (trodAll_cons_mk (Below.trod laidOut (by kernel_rfl) (of_decide_eq_true (by kernel_rfl)) h0 bel lt0) trodAll_mk0), rfl, bel.frame _, fun h => by cases h⟩

theorem over : Rows.FnHeadersFromSaid :=
  OpenClaim.holds_of_wide 11 Tryd.f11 rfl rfl rfl rfl rfl rfl rfl ⟨rfl, rfl, rfl, rfl, rfl⟩ rfl rfl rfl rfl rfl (by kernel_rfl) Tryd.func11 (by kernel_rfl)
    (of_decide_eq_true (by kernel_rfl)) (by unfold Func.isWrapper; first | (rw [if_pos (by decide +kernel)]; kernel_rfl) | (rw [if_neg (by decide +kernel)]; exact ⟨rfl, rfl⟩))
    (fun os started H enc _ => lifted os started H enc)

/-- THE STATEMENT -/
theorem proved : Rows.FnHeadersFromCardSaid :=
  Claim7.holds_tied_plain_at .later [] [.handle] true (true, "f2c3165d935d7055cbfed0928b62cc79c40ab9b59b194cd62da8f9fd35a1a633") true
    over (fun _ h => by cases h) (by kernel_rfl) (fun _ h => by cases h) fnHeadersFrom_row_tie rfl ⟨rfl, rfl⟩ (by kernel_rfl) rfl
    (fun f fn hf hfn => by
      obtain rfl : f = 11 := Option.some.inj ((show Tryd.prog.funcNamed "loop.example/mediarelay/laws.FnHeadersFrom" = some 11 by kernel_rfl).symm.trans hf) |>.symm
      obtain rfl : fn = Tryd.f11 := (Option.some.inj (Tryd.func11.symm.trans hfn)).symm
      exact ⟨by kernel_rfl, fun j t ht => by
        rw [Tryd.params11] at ht
        have hm : t ∈ [31] := by simpa using Array.mem_of_getElem? ht
        have hall : ([31].all fun u => !Tryd.prog.wantsStandIn u) = true := by kernel_rfl
        exact (show Tryd.prog.wantsStandIn t = false by simpa using List.all_eq_true.1 hall t hm)⟩)
    (by kernel_rfl)
#print axioms proved
end Go.Proofs.YtjpglpglgkopiaaDoor.fnHeadersFrom
