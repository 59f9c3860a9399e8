/-
  The statement FnHeaderTorn: the law returns true for every input, and what was there before the call has not turned.
  No condition beyond the given statement.
-/
import Derived.Test.YtjpglpglgkopiaaDoorRows
import Derived.Test.YtjpglpglgkopiaaDoorTie
import Derived.Test.YtjpglpglgkopiaaDoorCards
import Derived.WalkKit
import Derived.ProofKit
import Derived.OpenShut
import Derived.ShutString
import Derived.ChangeOld
import Derived.Below
import Derived.Test.YtjpglpglgkopiaaDoorHdZ
import Derived.LaidMore
import Derived.Stop.Joined
import Derived.SevenTiedAt
import Derived.Test.YtjpglpglgkopiaaDoorErA
import Derived.Test.YtjpglpglgkopiaaDoorOpI
namespace Go.Proofs.YtjpglpglgkopiaaDoor.fnHeaderTorn
open Go.ChangeShapes Go.WideShapes Go.ChangeAt Go.RowKit
set_option linter.unusedVariables false
set_option linter.unusedSimpArgs false

theorem own : ownKnob Tryd.prog.godebug = none := by kernel_rfl
theorem laidOut : laidOutB Tryd.prog = true := by kernel_rfl


/-! ### STEP 1: THE WALK -/
set_option maxHeartbeats 4000000 in
set_option maxRecDepth 100000 in
theorem walk (a0 : Option Addr) (len0 cap0 : Nat) (w : World) (hb0 : Bytes w w.heap.size a0 len0) (hn0 : len0 ≤ cap0) (hc0 : cap0 ≤ maxLen) (hg : HgOk w) :
    Calls Tryd.prog 6 #[.slice a0 len0 cap0] w fun e w' => e = .returned (.bool true) ∧ Below w.heap.size w w' := by
  have hcm := hc0
  unfold maxLen at hcm
  by_cases hbig : 1048576 < len0
  · have e1 : decide (1048576 < len0) = true := by simpa using hbig
    go_enter Tryd.func6, Tryd.ntmps6
    go_wp2
    go_ret
    exact ⟨rfl, Below.refl _ _⟩
  have e1 : decide (1048576 < len0) = false := by simpa using hbig
  go_enter Tryd.func6, Tryd.ntmps6
  go_wp2_with fail
  refine (draw_hv a0 len0 cap0 _ hb0 hn0 hc0).mono ?_
  rintro e w1 ⟨near, A, n, c, zs, rfl, hz1, hnc, hcm1, hn1000, hb1⟩
  have HG1 := Lib.hid (hg.below hb1 hg.lt)
  have HZ1 := Lib.hid hz1
  clear hg hz1
  cases hq : hd near zs with
  | none =>
    have HQ := Lib.hid hq
    clear hq
    go_wp2_with fail
    refine (ihf_any near n c A zs _ HZ1.out (by omega) HG1.out).mono ?_
    rintro e w2 ⟨-, hx⟩
    obtain ⟨rfl, hb2⟩ := hx HQ.out
    have hbx := pk_new w2 (.cells #[.int .i64 0, .int .i64 0, .int .i64 0, .int .i64 0, .bool false, .bool false] 24)
    have hP := Bk.new w2 24 #[.int .i64 0, .int .i64 0, .int .i64 0, .int .i64 0, .bool false, .bool false]
    have hB2 := hb1.trans (hb2.mono hb1.size)
    have hB3 := hB2.trans (hbx.mono hB2.size)
    have HZ3 := Lib.hid ((HZ1.out.step hb2).step hbx)
    clear hx hb2 hbx hB2 HG1
    go_wp2_with fail
    refine (shf_any near n c A zs _ HZ3.out (by omega)).mono ?_
    rintro e w4 ⟨-, hx⟩
    obtain ⟨rfl, hb4⟩ := hx HQ.out
    have hP4 := hP.below hb4 hP.lt
    have hB4 := hB3.trans (hb4.mono hB3.size)
    have hl4 : w2.heap.size < w4.heap.size := hP4.lt
    clear hx hb4 hP
    (try clear hP4_c0); (try clear hP4_f0)
    (try clear hP4_c1); (try clear hP4_f1)
    (try clear hP4_c2); (try clear hP4_f2)
    (try clear hP4_c3); (try clear hP4_f3)
    (try clear hP4_c4); (try clear hP4_f4)
    (try clear hP4_c5); (try clear hP4_f5)
    (try clear hP4_lt)
    have hP4_lt := hP4.lt; (try simp only [World.size_alloc] at hP4_lt)
    have hP4_c0 := hP4.cell 0; have hP4_f0 := hP4.frozen 0
    have hP4_c1 := hP4.cell 1; have hP4_f1 := hP4.frozen 1
    have hP4_c2 := hP4.cell 2; have hP4_f2 := hP4.frozen 2
    have hP4_c3 := hP4.cell 3; have hP4_f3 := hP4.frozen 3
    have hP4_c4 := hP4.cell 4; have hP4_f4 := hP4.frozen 4
    have hP4_c5 := hP4.cell 5; have hP4_f5 := hP4.frozen 5
    simp only [List.getElem?_toArray, List.getElem?_cons_zero, List.getElem?_cons_succ] at hP4_c0 hP4_c1 hP4_c2 hP4_c3 hP4_c4 hP4_c5
    go_wp2
    go_ret
    exact ⟨rfl, hB4.alloc hB4.size _⟩
  | some x =>
    have HQ := Lib.hid hq
    obtain ⟨b0, b1, b2, b3, b4, b5, b6, b7, rfl, -, -⟩ := hd_some hq
    obtain rfl : n = 8 := by have := HZ1.out.len; simpa using this.symm
    clear hq
    go_wp2_with fail
    refine (ihf_any near 8 c A _ _ HZ1.out (by omega) HG1.out).mono ?_
    rintro e w2 ⟨hy, -⟩
    obtain ⟨rfl, hb2⟩ := hy x HQ.out
    have hbx := pk_new w2 (.cells #[.int .i64 x.wi, .int .i64 x.ti, .int .i64 x.la, .int .i64 x.si, .bool x.ky, .bool x.en] 24)
    have hP := Bk.new w2 24 #[.int .i64 x.wi, .int .i64 x.ti, .int .i64 x.la, .int .i64 x.si, .bool x.ky, .bool x.en]
    have hB2 := hb1.trans (hb2.mono hb1.size)
    have hB3 := hB2.trans (hbx.mono hB2.size)
    have HZ3 := Lib.hid ((HZ1.out.step hb2).step hbx)
    have HG3 := Lib.hid ((HG1.out.step hb2).step hbx)
    clear hy hb2 hbx hB2 HG1
    go_wp2_with fail
    refine (shf_any near 8 c A _ _ HZ3.out (by omega)).mono ?_
    rintro e w4 ⟨hy, -⟩
    obtain ⟨rfl, hb4⟩ := hy x HQ.out
    have hP4 := hP.below hb4 hP.lt
    have hB4 := hB3.trans (hb4.mono hB3.size)
    have hl4 : w2.heap.size < w4.heap.size := hP4.lt
    have hby := pk_new w4 (.cells #[.int .i64 x.wi, .int .i64 x.ti, .int .i64 x.la, .int .i64 x.si, .bool x.ky, .bool x.en] 24)
    have hB5 := hB4.trans (hby.mono hB4.size)
    have HZ5 := Lib.hid ((HZ3.out.step hb4).step hby)
    have HG5 := Lib.hid ((HG3.out.step hb4).step hby)
    clear hy hb4 hP hby hB3 HG3
    (try clear hP4_c0); (try clear hP4_f0)
    (try clear hP4_c1); (try clear hP4_f1)
    (try clear hP4_c2); (try clear hP4_f2)
    (try clear hP4_c3); (try clear hP4_f3)
    (try clear hP4_c4); (try clear hP4_f4)
    (try clear hP4_c5); (try clear hP4_f5)
    (try clear hP4_lt)
    have hP4_lt := hP4.lt; (try simp only [World.size_alloc] at hP4_lt)
    have hP4_c0 := hP4.cell 0; have hP4_f0 := hP4.frozen 0
    have hP4_c1 := hP4.cell 1; have hP4_f1 := hP4.frozen 1
    have hP4_c2 := hP4.cell 2; have hP4_f2 := hP4.frozen 2
    have hP4_c3 := hP4.cell 3; have hP4_f3 := hP4.frozen 3
    have hP4_c4 := hP4.cell 4; have hP4_f4 := hP4.frozen 4
    have hP4_c5 := hP4.cell 5; have hP4_f5 := hP4.frozen 5
    simp only [List.getElem?_toArray, List.getElem?_cons_zero, List.getElem?_cons_succ] at hP4_c0 hP4_c1 hP4_c2 hP4_c3 hP4_c4 hP4_c5
    obtain ⟨i0, hi0, hz0, hz1, hz2⟩ := info_parts int_info
    unfold maxLen at hcm1
    have hz7 : Ints (w4.alloc (.cells #[.int .i64 x.wi, .int .i64 x.ti, .int .i64 x.la, .int .i64 x.si, .bool x.ky, .bool x.en] 24)) (w4.alloc (.cells #[.int .i64 x.wi, .int .i64 x.ti, .int .i64 x.la, .int .i64 x.si, .bool x.ky, .bool x.en] 24)).heap.size A 7 [b0, b1, b2, b3, b4, b5, b6] := Sl.take_ (k := 7) HZ5.out (by omega)
    have HZ7 := Lib.hid hz7
    have HN7 := Lib.hid (hd_len (near := near) (zs := [b0, b1, b2, b3, b4, b5, b6]) (by simp))
    clear hz7
    go_wp2_with fail
    refine (ihf_any near 7 c A _ _ HZ7.out (by omega) HG5.out).mono ?_
    rintro e w6 ⟨-, hx⟩
    obtain ⟨rfl, hb6⟩ := hx HN7.out
    have hB6 := hB5.trans (hb6.mono hB5.size)
    have hby := pk_new w6 (.cells #[.int .i64 0, .int .i64 0, .int .i64 0, .int .i64 0, .bool false, .bool false] 24)
    have hB7 := hB6.trans (hby.mono hB6.size)
    have HZ7b := Lib.hid (((HZ5.out.step hb6).step hby).step (pk_new _ (.cells #[] 3)))
    have HG7 := Lib.hid (((HG5.out.step hb6).step hby).step (pk_new _ (.cells #[] 3)))
    have hB8 := hB7.trans ((pk_new _ (.cells #[] 3)).mono hB7.size)
    have he := own_empty (w6.alloc (.cells #[.int .i64 0, .int .i64 0, .int .i64 0, .int .i64 0, .bool false, .bool false] 24)) (w6.alloc (.cells #[.int .i64 0, .int .i64 0, .int .i64 0, .int .i64 0, .bool false, .bool false] 24)).heap.size 3 1 (Nat.le_refl _)
    simp only [World.size_alloc] at he
    have HE := Lib.hid he
    clear he
    (try clear hP4_c0); (try clear hP4_f0)
    (try clear hP4_c1); (try clear hP4_f1)
    (try clear hP4_c2); (try clear hP4_f2)
    (try clear hP4_c3); (try clear hP4_f3)
    (try clear hP4_c4); (try clear hP4_f4)
    (try clear hP4_c5); (try clear hP4_f5)
    (try clear hP4_lt)
    clear hx hb6 hby hB6 HZ7 HZ5 HG5 hP4 HN7
    go_wp2_with (first
      | (at_builtin; refine wpList_app _ rfl (.tmp 65) (.tmp 66) 22 rfl _ 3 i0 (.int .i64 0) 1 8 Tryd.underlying22 hi0 hz0 hz1 hz2 rfl (by omega) _ 0 _ rfl HE.out _ A 8 c _ rfl HZ7b.out (one_is _) (by unfold maxLen; omega) (by omega) (by simp) ?_; intro v3 w8 hown3 hgrow3 hat3; obtain ⟨A3, c3, rfl, -, -, -⟩ := own_shape hown3; have HB8 := Lib.hid (Gr.app hgrow3 hat3); have HO3 := Lib.hid hown3; have HNB := Lib.hid (show Sl (w8.alloc (.cells #[.int .i64 0] 3)) (w8.heap.size + 1) 1 (some ⟨w8.heap.size, 0, none⟩) 1 [Value.int .i64 0] from ⟨rfl, fun _ => ⟨w8.heap.size, 0, rfl, by omega, fun j u hu => by rw [Nat.zero_add, (Bk.new w8 3 #[.int .i64 0]).cell j]; simpa using hu⟩⟩); have hs8 := HB8.out.but.size; clear hown3 hgrow3 hat3)
      | (at_builtin; refine wpList_app _ rfl (.tmp 67) (.tmp 68) 22 rfl _ 3 i0 (.int .i64 0) 1 8 Tryd.underlying22 hi0 hz0 hz1 hz2 rfl (by omega) _ (0 + 8) _ rfl (HO3.out.alloc _) (w8.heap.size + 1) (some ⟨w8.heap.size, 0, none⟩) 1 1 _ rfl HNB.out (one_i 0) (by unfold maxLen; omega) (by omega) (by simp at hs8 ⊢; omega) ?_; intro v4 w9 hown4 hgrow4 hat4; obtain ⟨A4, c4, rfl, -, -, -⟩ := own_shape hown4))
    have hZ9 : Ints w9 w9.heap.size A4 9 [b0, b1, b2, b3, b4, b5, b6, b7, 0] := Sl.of_own hown4
    have hb9 := ((HB8.out.alloc (.cells #[.int .i64 0] 3)).trans (Gr.app hgrow4 hat4)).below HE.out (by simp)
    have hs9 := hB7.size
    have hB9 := hB8.trans (hb9.mono (by simp at hs9; omega))
    have HG9 := Lib.hid (HG7.out.below hb9 (by omega))
    have HZ9 := Lib.hid hZ9
    have HN9 := Lib.hid (hd_len (near := near) (zs := [b0, b1, b2, b3, b4, b5, b6, b7, 0]) (by simp))
    clear hown4 hgrow4 hat4 hb9 hZ9
    refine (ihf_any near 9 c4 A4 _ _ HZ9.out (by omega) HG9.out).mono ?_
    rintro e w10 ⟨-, hx⟩
    obtain ⟨rfl, hb10⟩ := hx HN9.out
    have hB10 := hB9.trans (hb10.mono hB9.size)
    go_wp2
    go_ret
    exact ⟨rfl, hB10.alloc hB10.size _⟩

set_option maxRecDepth 100000 in
theorem lifted (os : Os) (started : os.Started) (H : Type) (enc : TypeId × Value → H) :
    ReturnsInHanded {} Tryd.checked os 6 .any (fun w args => (Rows.fnHeaderTornSpec.pre enc Tryd.prog Tryd.f6 [] false w args ∧ laidMetH Tryd.prog Rows.fnHeaderTornRow.laid w) ∧ sizedMet enc Tryd.prog Tryd.f6 (OpenSpec.ofChange Rows.fnHeaderTornSpec) false w args)
      (Rows.fnHeaderTornSpec.post enc Tryd.prog Tryd.f6 false true false false) := by
  refine returnsInHanded_of_change_and (C := Tryd.checked) (X := fun w _ => laidMetH Tryd.prog Rows.fnHeaderTornRow.laid w) (fun _ _ _ hh h => h.of_heap hh) own started (by kernel_rfl) Tryd.func6
    (ChangeSpec.witness_at (enc := enc) (C := Tryd.checked) (os := os) (X := fun w _ => laidMetH Tryd.prog Rows.fnHeaderTornRow.laid w) false (laidWorld os) #[.slice none 0 0] 8 rfl (by kernel_rfl) (by kernel_rfl) (by kernel_rfl) (by kernel_rfl) (by kernel_rfl) (laidWorld_met os _)) ?_
  intro W base args ds gs before hval0 hW _ _ hL _
  have hg : HgOk W := handle_of_laid hL
  have hval : ∀ (j : Nat) t v, Tryd.f6.params[j]? = some t → args[j]? = some v → Value.okWide Tryd.prog W .any base t v := hval0
  have hW' := hW
  obtain ⟨p, q, hA0, hV, rfl, hfz, hnd⟩ := hW
  have hA : DataW.TrodAll enc Tryd.prog W 0 (fun _ => true) true Tryd.f6.params.toList args.toList ds p := hA0
  rw [Tryd.params6] at hA hval
  obtain ⟨v0, vs0, d0, ds0, p0, q0, hargs, rfl, rfl, h0, r0⟩ := trodAll_cons hA
  obtain ⟨rfl, rfl, rfl⟩ := trodAll_nil r0
  obtain rfl : args = #[v0] := by cases args; simp_all
  obtain ⟨rfl, rfl⟩ := trodVars_none hV
  obtain ⟨a0, len0, cap0, rfl, hb0, hn0, hc0⟩ := open_bytesI (hval 0 31 v0 rfl rfl) h0
  have lt0 : ∀ x ∈ p0, x.block < W.heap.size := by obtain ⟨m, hm⟩ := h0; exact DataW.trod_lt m _ _ _ hm
  clear hA0 hval0
  refine (walk a0 len0 cap0 W hb0 hn0 hc0 hg).mono fun e W' ⟨he, bel⟩ => ?_
  subst he
  exact ⟨_, rfl, _, _, _, [], _, [], hW', trodAll_mk1 (shut_bool Tryd.underlying4 _), (trodAll_cons_mk (Below.trod laidOut (by kernel_rfl) (of_decide_eq_true (by kernel_rfl)) h0 bel lt0) trodAll_mk0), rfl, bel.frame _, fun h => by cases h⟩

theorem over : Rows.FnHeaderTornSaid :=
  OpenClaim.holds_of_wide 6 Tryd.f6 rfl rfl rfl rfl rfl rfl rfl ⟨rfl, rfl, rfl, rfl, rfl⟩ rfl rfl rfl rfl rfl (by kernel_rfl) Tryd.func6 (by kernel_rfl)
    (of_decide_eq_true (by kernel_rfl)) (by unfold Func.isWrapper; first | (rw [if_pos (by decide +kernel)]; kernel_rfl) | (rw [if_neg (by decide +kernel)]; exact ⟨rfl, rfl⟩))
    (fun os started H enc _ => lifted os started H enc)

/-- THE STATEMENT -/
theorem proved : Rows.FnHeaderTornCardSaid :=
  Claim7.holds_tied_plain_at .later [] [.handle] true (true, "f2c3165d935d7055cbfed0928b62cc79c40ab9b59b194cd62da8f9fd35a1a633") true
    over (fun _ h => by cases h) (by kernel_rfl) (fun _ h => by cases h) fnHeaderTorn_row_tie rfl ⟨rfl, rfl⟩ (by kernel_rfl) rfl
    (fun f fn hf hfn => by
      obtain rfl : f = 6 := Option.some.inj ((show Tryd.prog.funcNamed "loop.example/mediarelay/laws.FnHeaderTorn" = some 6 by kernel_rfl).symm.trans hf) |>.symm
      obtain rfl : fn = Tryd.f6 := (Option.some.inj (Tryd.func6.symm.trans hfn)).symm
      exact ⟨by kernel_rfl, fun j t ht => by
        rw [Tryd.params6] at ht
        have hm : t ∈ [31] := by simpa using Array.mem_of_getElem? ht
        have hall : ([31].all fun u => !Tryd.prog.wantsStandIn u) = true := by kernel_rfl
        exact (show Tryd.prog.wantsStandIn t = false by simpa using List.all_eq_true.1 hall t hm)⟩)
    (by kernel_rfl)
#print axioms proved
end Go.Proofs.YtjpglpglgkopiaaDoor.fnHeaderTorn
