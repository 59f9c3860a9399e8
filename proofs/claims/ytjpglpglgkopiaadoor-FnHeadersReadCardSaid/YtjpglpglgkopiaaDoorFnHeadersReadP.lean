/-
  The statement FnHeadersRead: the law returns true for every input, and what was there before the call has not turned.
  No condition beyond the given statement.
-/
import Derived.Test.YtjpglpglgkopiaaDoorRows
import Derived.Test.YtjpglpglgkopiaaDoorTie
import Derived.Test.YtjpglpglgkopiaaDoorCards
import Derived.WalkKit
import Derived.ProofKit
import Derived.OpenShut
import Derived.ShutString
import Derived.ChangeOld
import Derived.Below
import Derived.Test.YtjpglpglgkopiaaDoorHdZ
import Derived.LaidMore
import Derived.Stop.Joined
import Derived.SevenTiedAt
import Derived.Test.YtjpglpglgkopiaaDoorErA
import Derived.Test.YtjpglpglgkopiaaDoorOpI
namespace Go.Proofs.YtjpglpglgkopiaaDoor.fnHeadersRead
open Go.ChangeShapes Go.WideShapes Go.ChangeAt Go.RowKit
set_option linter.unusedVariables false
set_option linter.unusedSimpArgs false

theorem own : ownKnob Tryd.prog.godebug = none := by kernel_rfl
theorem laidOut : laidOutB Tryd.prog = true := by kernel_rfl


/-! ### STEP 1: THE WALK -/
set_option maxHeartbeats 4000000 in
set_option maxRecDepth 100000 in
theorem walk (a0 : Option Addr) (len0 cap0 : Nat) (w : World) (hb0 : Bytes w w.heap.size a0 len0) (hn0 : len0 ≤ cap0) (hc0 : cap0 ≤ maxLen) (hg : HgOk w) :
    Calls Tryd.prog 8 #[.slice a0 len0 cap0] w fun e w' => e = .returned (.bool true) ∧ Below w.heap.size w w' := by
  have hcm := hc0
  unfold maxLen at hcm
  by_cases hbig : 1048576 < len0
  · have e1 : decide (1048576 < len0) = true := by simpa using hbig
    go_enter Tryd.func8, Tryd.ntmps8
    go_wp2
    go_ret
    exact ⟨rfl, Below.refl _ _⟩
  have e1 : decide (1048576 < len0) = false := by simpa using hbig
  go_enter Tryd.func8, Tryd.ntmps8
  go_wp2_with fail
  refine (draw_hxb a0 len0 cap0 _ hb0 hn0 hc0).mono ?_
  rintro e w1 ⟨A, c, xs, rfl, hx6, hxc, hcm1, hx1, hb1⟩
  have HG1 := Lib.hid (hg.below hb1 hg.lt)
  obtain ⟨n, hn⟩ : ∃ n, xs.length = n := ⟨_, rfl⟩
  have HN := Lib.hid hn
  rw [hn] at hx6 hxc hx1 ⊢
  have HX1 := Lib.hid hx1
  clear hg hx1 hn
  by_cases hk : psOk xs
  rotate_left
  · have HK := Lib.hid hk
    clear hk
    go_wp2_with fail
    refine (ihm_any A n c xs _ HX1.out (by omega)).mono ?_
    rintro e w2 ⟨-, hn⟩
    obtain ⟨⟨A2, c2, rfl⟩, hb2⟩ := hn HK.out
    have hB2 := hb1.trans (hb2.mono hb1.size)
    have HX2 := Lib.hid ((HX1.out.below hb2).more hb2.size)
    clear hb2 hn
    go_wp2_with fail
    refine (shm_any A n c xs _ HX2.out (by omega)).mono ?_
    rintro e w3 ⟨-, hn⟩
    obtain ⟨⟨A3, c3, rfl⟩, hb3⟩ := hn HK.out
    have hB3 := hB2.trans (hb3.mono hB2.size)
    clear hb3 hn
    go_wp2_with fail
    refine (sameI_any _ _ 0 _ _ [] _ Ints.nil_ Ints.nil_ (by omega)).mono ?_
    rintro e w4 ⟨rfl, hb4⟩
    have hB4 := hB3.trans (hb4.mono hB3.size)
    clear hb4
    go_wp2_with fail
    refine (sameI_any _ _ 0 _ _ [] _ Ints.nil_ Ints.nil_ (by omega)).mono ?_
    rintro e w5 ⟨rfl, hb5⟩
    have hB5 := hB4.trans (hb5.mono hB4.size)
    go_wp2
    go_ret
    exact ⟨rfl, hB5⟩
  have HK := Lib.hid hk
  clear hk
  go_wp2_with fail
  refine (ihm_any A n c xs _ HX1.out (by omega)).mono ?_
  rintro e w2 ⟨hy, -⟩
  obtain ⟨⟨A2, c2, rfl, hown2⟩, hb2⟩ := hy HK.out
  have hB2 := hb1.trans (hb2.mono hb1.size)
  have HX2 := Lib.hid ((HX1.out.below hb2).more hb2.size)
  have HG2 := Lib.hid (HG1.out.step hb2)
  have HI2 := Lib.hid (ints_own hown2)
  clear hb2 hy hown2
  go_wp2_with fail
  refine (shm_any A n c xs _ HX2.out (by omega)).mono ?_
  rintro e w3 ⟨hy, -⟩
  obtain ⟨⟨A3, c3, rfl, hown3⟩, hb3⟩ := hy HK.out
  have hB3 := hB2.trans (hb3.mono hB2.size)
  have HX3 := Lib.hid ((HX2.out.below hb3).more hb3.size)
  have HG3 := Lib.hid (HG2.out.step hb3)
  have HI3 := Lib.hid (HI2.out.step hb3)
  have HJ3 := Lib.hid (ints_own hown3)
  clear hb3 hy hown3
  go_wp2_with fail
  refine (sameI_any _ _ (8 * n) _ _ _ _ HI3.out HJ3.out (by omega)).mono ?_
  rintro e w4 ⟨rfl, hb4⟩
  have hB4 := hB3.trans (hb4.mono hB3.size)
  have HX4 := Lib.hid ((HX3.out.below hb4).more hb4.size)
  have HG4 := Lib.hid (HG3.out.step hb4)
  have HI4 := Lib.hid (HI3.out.step hb4)
  have HJ4 := Lib.hid (HJ3.out.step hb4)
  clear hb4 HX2 HX3 HI2 HI3 HG1 HG2 HG3 HX1
  rcases Nat.eq_zero_or_pos n with h0 | h0
  · subst h0
    go_wp2_with fail
    refine (sameI_any _ _ (8 * 0) _ _ _ _ HI4.out HJ4.out (by omega)).mono ?_
    rintro e w5 ⟨rfl, hb5⟩
    have hB5 := hB4.trans (hb5.mono hB4.size)
    go_wp2
    go_ret
    exact ⟨rfl, hB5⟩
  have e5 : (n == 0) = false := by simp; omega
  have e6 : ((n : Int) == 0) = false := by simp; omega
  have e7 : (n = 0) = False := by simp; omega
  have HB4 := Lib.hid hB4
  clear hB4
  go_wp2
  clear e5 e6 e7
  go_loopw [8] (fun i wr => ∃ k m : Nat, k + 1 ≤ n ∧ i = .int .i64 ((k + 1 : Nat) : Int) ∧ wr = w4.drewN m ∧ Hid (∀ i x y, i < k → xs[i]? = some x → xs[i + 1]? = some y → y.wi - x.wi ≤ 30000)) (fun i _ => n - (intOf i).toNat)
  case atStart => exact ⟨0, 0, by omega, rfl, rfl, Lib.hid (fun i x y hi => absurd hi (by omega))⟩
  case round =>
    obtain ⟨k, m, hk, rfl, rfl, HR⟩ := hrel
    obtain ⟨j, hj⟩ : ∃ j, k + 1 = j := ⟨_, rfl⟩
    have HJ := Lib.hid hj
    rw [hj] at hk ⊢
    obtain ⟨b, off, rfl, hbB, hcell⟩ := Pks.addr HX4.out h0
    by_cases hlt : j < n
    · obtain ⟨x, hx⟩ : ∃ x, xs[k]? = some x := ⟨_, List.getElem?_eq_getElem (by rw [HN.out]; omega)⟩
      obtain ⟨y, hy⟩ : ∃ y, xs[j]? = some y := ⟨_, List.getElem?_eq_getElem (by rw [HN.out]; omega)⟩
      have c0 := (hcell k x hx).1
      have d0 := (hcell j y hy).1
      have px := psOk_at HK.out hx
      have py := psOk_at HK.out hy
      obtain ⟨px1, px2, -⟩ := px
      obtain ⟨py1, py2, -⟩ := py
      have HXK := Lib.hid hx
      have HYJ := Lib.hid hy
      have hj1 : (j : Int) - 1 = (k : Int) := by omega
      have hj2 : IntKind.i64.wrap ((j : Int) - 1) = (k : Int) := by rw [IntKind.wrap_i64]; omega
      have hw1 : IntKind.i64.wrap (y.wi - x.wi) = y.wi - x.wi := by rw [IntKind.wrap_i64]; omega
      have k0 : (0 : Int) ≤ (k : Int) := Int.natCast_nonneg _
      have k1 : (k : Int) < (n : Int) := by omega
      have j0 : (0 : Int) ≤ (j : Int) := Int.natCast_nonneg _
      have j1 : (j : Int) < (n : Int) := by omega
      have e0 : decide (j < n) = true := by simpa using hlt
      clear hcell hx hy hj
      by_cases hd : 30000 < y.wi - x.wi
      · have e1 : decide (30000 < y.wi - x.wi) = true := by simpa using hd
        go_wp2
        go_quiet (fail)
        clear hj1 hj2 hw1
        go_wp2
        go_ret
        exact ⟨rfl, Below.drewN' (Below.drewN' HB4.out m) _⟩
      · have e1 : decide (30000 < y.wi - x.wi) = false := by simpa using hd
        have HN2 := Lib.hid (show ∀ i x y, i < j → xs[i]? = some x → xs[i + 1]? = some y → y.wi - x.wi ≤ 30000 from fun i x' y' hi hx' hy' => by
          rcases Nat.lt_or_ge i k with h | h
          · exact HR.out i x' y' h hx' hy'
          · obtain rfl : i = k := by have := HJ.out; omega
            rw [HJ.out] at hy'
            obtain rfl := Option.some.inj (HXK.out.symm.trans hx')
            obtain rfl := Option.some.inj (HYJ.out.symm.trans hy')
            omega)
        go_wp2
        go_quiet (fail)
        clear hj1 hj2 hw1
        go_wp2
        go_roundw
        case rel => exact ⟨j, _, by omega, by go_num, rfl, HN2⟩
        case measure => simp [intOf]; omega
    · have hjn : j = n := by omega
      have HALL := Lib.hid (show ∀ i x y, xs[i]? = some x → xs[i + 1]? = some y → y.wi - x.wi ≤ 30000 from fun i x' y' hx' hy' => HR.out i x' y' (by have := (List.getElem?_eq_some_iff.1 hy').1; rw [HN.out] at this; have := HJ.out; omega) hx' hy')
      obtain ⟨x0, hx0⟩ : ∃ x, xs[0]? = some x := ⟨_, List.getElem?_eq_getElem (by rw [HN.out]; omega)⟩
      have c0 := (hcell 0 x0 hx0).1
      rw [Nat.zero_mul, Nat.add_zero] at c0
      have HS := Lib.hid (hsR_hB HK.out hx0 HALL.out)
      have e0 : decide (j < n) = false := by simpa using hlt
      have n0 : (0 : Int) < (n : Int) := by omega
      clear hcell hx0 hj
      go_wp2_with fail
      refine (ihx_any x0.wi (8 * n) c2 A2 _ (w4.drewN m) (show Ints (w4.drewN m) (w4.drewN m).heap.size A2 (8 * n) (xs.flatMap hB) from HI4.out) (by omega) HG4.out).mono ?_
      rintro e w6 ⟨hy, -⟩
      obtain ⟨⟨A6, c6, rfl, hown6⟩, hb6⟩ := hy xs HS.out
      rw [HN.out] at hown6 ⊢
      have hB6 := (Below.drewN' HB4.out m).trans (hb6.mono HB4.out.size)
      have HX6 := Lib.hid (show Pks w6 w6.heap.size _ n xs from ((show Pks (w4.drewN m) (w4.drewN m).heap.size _ n xs from HX4.out).below hb6).more hb6.size)
      have HY6 := Lib.hid (pks_own hown6)
      clear hy hb6 hown6
      go_wp2_with fail
      refine (sameK_any _ _ n _ _ xs _ HY6.out HX6.out (by omega)).mono ?_
      rintro e w7 ⟨rfl, hb7⟩
      have hB7 := hB6.trans (hb7.mono hB6.size)
      go_wp2
      go_ret
      exact ⟨rfl, hB7⟩

set_option maxRecDepth 100000 in
theorem lifted (os : Os) (started : os.Started) (H : Type) (enc : TypeId × Value → H) :
    ReturnsInHanded {} Tryd.checked os 8 .any (fun w args => (Rows.fnHeadersReadSpec.pre enc Tryd.prog Tryd.f8 [] false w args ∧ laidMetH Tryd.prog Rows.fnHeadersReadRow.laid w) ∧ sizedMet enc Tryd.prog Tryd.f8 (OpenSpec.ofChange Rows.fnHeadersReadSpec) false w args)
      (Rows.fnHeadersReadSpec.post enc Tryd.prog Tryd.f8 false true false false) := by
  refine returnsInHanded_of_change_and (C := Tryd.checked) (X := fun w _ => laidMetH Tryd.prog Rows.fnHeadersReadRow.laid w) (fun _ _ _ hh h => h.of_heap hh) own started (by kernel_rfl) Tryd.func8
    (ChangeSpec.witness_at (enc := enc) (C := Tryd.checked) (os := os) (X := fun w _ => laidMetH Tryd.prog Rows.fnHeadersReadRow.laid w) false (laidWorld os) #[.slice none 0 0] 8 rfl (by kernel_rfl) (by kernel_rfl) (by kernel_rfl) (by kernel_rfl) (by kernel_rfl) (laidWorld_met os _)) ?_
  intro W base args ds gs before hval0 hW _ _ hL _
  have hg : HgOk W := handle_of_laid hL
  have hval : ∀ (j : Nat) t v, Tryd.f8.params[j]? = some t → args[j]? = some v → Value.okWide Tryd.prog W .any base t v := hval0
  have hW' := hW
  obtain ⟨p, q, hA0, hV, rfl, hfz, hnd⟩ := hW
  have hA : DataW.TrodAll enc Tryd.prog W 0 (fun _ => true) true Tryd.f8.params.toList args.toList ds p := hA0
  rw [Tryd.params8] at hA hval
  obtain ⟨v0, vs0, d0, ds0, p0, q0, hargs, rfl, rfl, h0, r0⟩ := trodAll_cons hA
  obtain ⟨rfl, rfl, rfl⟩ := trodAll_nil r0
  obtain rfl : args = #[v0] := by cases args; simp_all
  obtain ⟨rfl, rfl⟩ := trodVars_none hV
  obtain ⟨a0, len0, cap0, rfl, hb0, hn0, hc0⟩ := open_bytesI (hval 0 31 v0 rfl rfl) h0
  have lt0 : ∀ x ∈ p0, x.block < W.heap.size := by obtain ⟨m, hm⟩ := h0; exact DataW.trod_lt m _ _ _ hm
  clear hA0 hval0
  refine (walk a0 len0 cap0 W hb0 hn0 hc0 hg).mono fun e W' ⟨he, bel⟩ => ?_
  subst he
  exact ⟨_, rfl, _, _, _, [], _, [], hW', trodAll_mk1 (shut_bool Tryd.underlying4 _), (trodAll_cons_mk (Below.trod laidOut (by kernel_rfl) (of_decide_eq_true (by kernel_rfl)) h0 bel lt0) trodAll_mk0), rfl, bel.frame _, fun h => by cases h⟩

theorem over : Rows.FnHeadersReadSaid :=
  OpenClaim.holds_of_wide 8 Tryd.f8 rfl rfl rfl rfl rfl rfl rfl ⟨rfl, rfl, rfl, rfl, rfl⟩ rfl rfl rfl rfl rfl (by kernel_rfl) Tryd.func8 (by kernel_rfl)
    (of_decide_eq_true (by kernel_rfl)) (by unfold Func.isWrapper; first | (rw [if_pos (by decide +kernel)]; kernel_rfl) | (rw [if_neg (by decide +kernel)]; exact ⟨rfl, rfl⟩))
    (fun os started H enc _ => lifted os started H enc)

/-- THE STATEMENT -/
theorem proved : Rows.FnHeadersReadCardSaid :=
  Claim7.holds_tied_plain_at .later [] [.handle] true (true, "f2c3165d935d7055cbfed0928b62cc79c40ab9b59b194cd62da8f9fd35a1a633") true
    over (fun _ h => by cases h) (by kernel_rfl) (fun _ h => by cases h) fnHeadersRead_row_tie rfl ⟨rfl, rfl⟩ (by kernel_rfl) rfl
    (fun f fn hf hfn => by
      obtain rfl : f = 8 := Option.some.inj ((show Tryd.prog.funcNamed "loop.example/mediarelay/laws.FnHeadersRead" = some 8 by kernel_rfl).symm.trans hf) |>.symm
      obtain rfl : fn = Tryd.f8 := (Option.some.inj (Tryd.func8.symm.trans hfn)).symm
      exact ⟨by kernel_rfl, fun j t ht => by
        rw [Tryd.params8] at ht
        have hm : t ∈ [31] := by simpa using Array.mem_of_getElem? ht
        have hall : ([31].all fun u => !Tryd.prog.wantsStandIn u) = true := by kernel_rfl
        exact (show Tryd.prog.wantsStandIn t = false by simpa using List.all_eq_true.1 hall t hm)⟩)
    (by kernel_rfl)
#print axioms proved
end Go.Proofs.YtjpglpglgkopiaaDoor.fnHeadersRead
