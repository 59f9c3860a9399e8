/-
  The statement FnScriptWhat: the law returns true for every input, and what was there before the call has not turned.
  No condition beyond the given statement.
-/
import Derived.Test.YthbkmnladaneaaaGreatDoorRows
import Derived.Test.YthbkmnladaneaaaGreatDoorTie
import Derived.Test.YthbkmnladaneaaaGreatDoorCards
import Derived.WalkKit
import Derived.ProofKit
import Derived.OpenShut
import Derived.ShutString
import Derived.ChangeOld
import Derived.Below
import Derived.Test.YthbkmnladaneaaaGreatDoorScLb
import Derived.Test.YthbkmnladaneaaaGreatDoorScDr
import Derived.LaidMore
import Derived.Stop.Joined
import Derived.SevenTiedAt
import Derived.Lay
import Derived.MakeChecks
import Derived.LaidSub
import Derived.Lib.LaidTab
import Derived.ChangeMaps5
import Derived.Test.YthbkmnladaneaaaGreatDoorScB
import Derived.Test.YthbkmnladaneaaaGreatDoorScF
import Derived.Test.YthbkmnladaneaaaGreatDoorOpB
namespace Go.Proofs.YthbkmnladaneaaaGreatDoor.fnScriptWhat
open Go.ChangeShapes Go.WideShapes Go.ChangeAt Go.RowKit
set_option linter.unusedVariables false
set_option linter.unusedSimpArgs false

theorem own : ownKnob Tryz.prog.godebug = none := by kernel_rfl
theorem laidOut : laidOutB Tryz.prog = true := by kernel_rfl
theorem tb_of_laid {W : World} (h : laidMetH Tryz.prog Rows.fnScriptWhatRow.laid W) : TB W := by
  have h2 := h.filter (fun x => x.1 == "internal/strconv.uint64pow10")
  have e : Rows.fnScriptWhatRow.laid.filter (fun x => x.1 == "internal/strconv.uint64pow10") = [("internal/strconv.uint64pow10", Lib.tabData .u64 Lib.pow10Tab)] := by kernel_rfl
  rw [e, MakeChecks.laidMetH_plain _ _ _ (by kernel_rfl)] at h2
  exact Lib.tabIs_of_head (g := 3) (t := 130) (e := 104) (n := 20) (by kernel_rfl) (by kernel_rfl) Tryz.underlying130 Tryz.underlying104 (by kernel_rfl) (by kernel_rfl) h2


/-! ### STEP 1: THE WALK -/
set_option maxHeartbeats 4000000 in
set_option maxRecDepth 100000 in
theorem walk (a0 : Option Addr) (len0 cap0 : Nat) (w : World) (hb0 : Bytes w w.heap.size a0 len0) (hn0 : len0 ≤ cap0) (hc0 : cap0 ≤ maxLen) (ht : TB w) :
    Calls Tryz.prog 5 #[.slice a0 len0 cap0] w fun e w' => e = .returned (.bool true) ∧ Below w.heap.size w w' := by
  have hcm := hc0
  unfold maxLen at hcm
  by_cases hbig : 1048576 < len0
  · have e1 : decide (1048576 < len0) = true := by simpa using hbig
    go_enter Tryz.func5, Tryz.ntmps5
    go_wp2
    go_ret
    exact ⟨rfl, Below.refl _ _⟩
  have e1 : decide (1048576 < len0) = false := by simpa using hbig
  have HI := Lib.hid (fun (t : ByteArray) (w' : World) (hb : Below w.heap.size w w') => iexec_any t w' (ht.below hb))
  unfold StrRet at HI
  have HT := Lib.hid (fun (w' : World) (hb : Below w.heap.size w w') => ht.below hb)
  go_enter Tryz.func5, Tryz.ntmps5
  go_wp2_with fail
  refine (draw_exec a0 len0 cap0 _ hb0 hn0 hc0).mono ?_
  rintro e w1 ⟨x, hx, rfl, hb1⟩
  clear ht hb0 hn0 hc0 hcm hbig
  have hxl := byte_len x
  obtain ⟨ex, hex⟩ : ∃ ex, execL x.data.toList = ex := ⟨_, rfl⟩
  have HIX := Lib.hid (HI.out x)
  have HSX := Lib.hid (fun w => sexec_any x w)
  unfold StrRet at HSX
  rw [hex] at HIX HSX
  by_cases hbg : 500 < x.size + 4
  · have e2 : (500 : Int) < (x.size : Int) + 4 := by omega
    clear hex hbg hxl
    go_wp2_with (first
    | (go_at_call 12; with_reducible refine (HIX.out _ hb1).mono ?_; rintro e w2 ⟨rfl, hb2⟩; have hB2 := hb1.trans (hb2.mono hb1.size))
    | (go_at_call 13; with_reducible refine (HSX.out _).mono ?_; rintro e w3 ⟨rfl, hb3⟩; have hB3 := hB2.trans (hb3.mono hB2.size)))
    go_ret
    exact ⟨rfl, hB3⟩
  · have e2 : ¬ (500 : Int) < (x.size : Int) + 4 := by omega
    have HC := Lib.hid (fun w => compl_any x w (by omega))
    have HW := Lib.hid (fun (k : Nat) (hk : CutAt x.data.toList k) => what_bytes hk (by omega))
    clear hex hbg hxl
    go_wp2_with (first
    | (go_at_call 12; with_reducible refine (HIX.out _ hb1).mono ?_; rintro e w2 ⟨rfl, hb2⟩; have hB2 := hb1.trans (hb2.mono hb1.size))
    | (go_at_call 13; with_reducible refine (HSX.out _).mono ?_; rintro e w3 ⟨rfl, hb3⟩; have hB3 := hB2.trans (hb3.mono hB2.size)))
    refine (HC.out _).mono ?_
    rintro e w4 ⟨k, hk, rfl, rfl⟩
    obtain ⟨zB, sB, yB, eB, pB, mB, rB, zn, pn, qn, P, q, hz1, hz2, hz3, hs1, hy1, hr1, hla, he1, hy2, he2, hpq, hp1, hp2, hm1, hm2, hr2⟩ := HW.out k hk
    rw [hz1]
    have HY := Lib.hid (HI.out zB)
    rw [hy1] at HY
    replace HY : Hid (∀ w', Below w.heap.size w w' → Calls Tryz.prog 12 #[.string zB] w' fun e w'' => e = .returned (.string yB) ∧ Below w'.heap.size w' w'') := HY
    have HZ := Lib.hid (HI.out sB)
    rw [hr1] at HZ
    replace HZ : Hid (∀ w', Below w.heap.size w w' → Calls Tryz.prog 12 #[.string sB] w' fun e w'' => e = .returned (.string rB) ∧ Below w'.heap.size w' w'') := HZ
    have HLL := Lib.hid (fun w => last_any yB P q w (by omega) hla)
    rw [he1] at HLL
    have hq0 : ¬ 9223372036854775807 < zn + 4 := by omega
    have hq1 : ¬ 9223372036854775807 < pn + 5 := by omega
    have hq2 : ¬ 9223372036854775807 < pn + 5 + qn := by omega
    clear HI HIX HSX HC HW HT hk hz1 hy1 hr1 he1 hla
    go_wp2_with (first
    | (go_at_call 12; with_reducible refine (HY.out _ hB3).mono ?_; rintro e w5 ⟨rfl, hb5⟩; have hB5 := hB3.trans (hb5.mono hB3.size))
    | (go_at_call 15; with_reducible refine (HLL.out _).mono ?_; rintro e w6 ⟨rfl, rfl⟩))
    have HZ2 := Lib.hid (fun (x : BW w6.heap.size w6) => HZ.out x.1 (hB5.trans (x.2.mono hB5.size)))
    clear HY HLL HZ
    refine wp_region_below (by kernel_rfl) (by kernel_rfl) ?_
    repeat (any_goals (first | go_big_quiet_step (first | (go_at_call 12; with_reducible exact BW.calls (Nat.le_refl _) _ (HZ2.out _))) | quiet_step (first | (go_at_call 12; with_reducible exact BW.calls (Nat.le_refl _) _ (HZ2.out _)))))
    refine wpQuiet_nil ?_
    intro _ hw'
    obtain ⟨xw, hw''⟩ := hw'
    subst hw''
    have hbw := xw.2
    generalize xw.1 = ww at hbw ⊢
    clear xw
    obtain ⟨kw, fw⟩ := bcell hbw
    have sw := hbw.size
    go_wp2
    go_ret
    exact ⟨rfl, hB5.trans (hbw.mono hB5.size)⟩

set_option maxRecDepth 100000 in
theorem lifted (os : Os) (started : os.Started) (H : Type) (enc : TypeId × Value → H) :
    ReturnsInHanded {} Tryz.checked os 5 .any (fun w args => (Rows.fnScriptWhatSpec.pre enc Tryz.prog Tryz.f5 [] false w args ∧ laidMetH Tryz.prog Rows.fnScriptWhatRow.laid w) ∧ sizedMet enc Tryz.prog Tryz.f5 (OpenSpec.ofChange Rows.fnScriptWhatSpec) false w args)
      (Rows.fnScriptWhatSpec.post enc Tryz.prog Tryz.f5 false true false false) := by
  refine returnsInHanded_of_change_and (C := Tryz.checked) (X := fun w _ => laidMetH Tryz.prog Rows.fnScriptWhatRow.laid w) (fun _ _ _ hh h => h.of_heap hh) own started (by kernel_rfl) Tryz.func5
    (ChangeSpec.witness_at (enc := enc) (C := Tryz.checked) (os := os) (X := fun w _ => laidMetH Tryz.prog Rows.fnScriptWhatRow.laid w) false (World.laidAll Tryz.prog os Rows.fnScriptWhatRow.laid) #[.slice none 0 0] 8 (World.laidAll_os _ _ _) (by kernel_rfl) (by kernel_rfl) (by kernel_rfl) (by kernel_rfl) (by kernel_rfl) (by rw [MakeChecks.laidMetH_plain _ _ _ (by kernel_rfl)]; exact laidMet_laidAll _ (by kernel_rfl) (by kernel_rfl))) ?_
  intro W base args ds gs before hval0 hW _ _ hL _
  have hg : TB W := tb_of_laid hL
  have hval : ∀ (j : Nat) t v, Tryz.f5.params[j]? = some t → args[j]? = some v → Value.okWide Tryz.prog W .any base t v := hval0
  have hW' := hW
  obtain ⟨p, q, hA0, hV, rfl, hfz, hnd⟩ := hW
  have hA : DataW.TrodAll enc Tryz.prog W 0 (fun _ => true) true Tryz.f5.params.toList args.toList ds p := hA0
  rw [Tryz.params5] at hA hval
  obtain ⟨v0, vs0, d0, ds0, p0, q0, hargs, rfl, rfl, h0, r0⟩ := trodAll_cons hA
  obtain ⟨rfl, rfl, rfl⟩ := trodAll_nil r0
  obtain rfl : args = #[v0] := by cases args; simp_all
  obtain ⟨rfl, rfl⟩ := trodVars_none hV
  obtain ⟨a0, len0, cap0, rfl, hb0, hn0, hc0⟩ := open_bytesI (hval 0 22 v0 rfl rfl) h0
  have lt0 : ∀ x ∈ p0, x.block < W.heap.size := by obtain ⟨m, hm⟩ := h0; exact DataW.trod_lt m _ _ _ hm
  clear hA0 hval0
  refine (walk a0 len0 cap0 W hb0 hn0 hc0 hg).mono fun e W' ⟨he, bel⟩ => ?_
  subst he
  exact ⟨_, rfl, _, _, _, [], _, [], hW', trodAll_mk1 (shut_bool Tryz.underlying4 _), (trodAll_cons_mk (Below.trod laidOut (by kernel_rfl) (of_decide_eq_true (by kernel_rfl)) h0 bel lt0) trodAll_mk0), rfl, bel.frame _, fun h => by cases h⟩

theorem over : Rows.FnScriptWhatSaid :=
  OpenClaim.holds_of_wide 5 Tryz.f5 rfl rfl rfl rfl rfl rfl rfl ⟨rfl, rfl, rfl, rfl, rfl⟩ rfl rfl rfl rfl rfl (by kernel_rfl) Tryz.func5 (by kernel_rfl)
    (of_decide_eq_true (by kernel_rfl)) (by unfold Func.isWrapper; first | (rw [if_pos (by decide +kernel)]; kernel_rfl) | (rw [if_neg (by decide +kernel)]; exact ⟨rfl, rfl⟩))
    (fun os started H enc _ => lifted os started H enc)

/-- THE STATEMENT -/
theorem proved : Rows.FnScriptWhatCardSaid :=
  Claim7.holds_tied_plain_at .later [] [.data, .data, .data, .data, .pinned] true (true, "5b1c8d1f139489b2291203883e38b26fff7b1df61fd5d08406a9c6c670d1818c") true
    over (fun _ h => by cases h) (by kernel_rfl) (fun _ h => by cases h) fnScriptWhat_row_tie rfl ⟨rfl, rfl⟩ (by kernel_rfl) rfl
    (fun f fn hf hfn => by
      obtain rfl : f = 5 := Option.some.inj ((show Tryz.prog.funcNamed "loop.example/mediarelay/laws.FnScriptWhat" = some 5 by kernel_rfl).symm.trans hf) |>.symm
      obtain rfl : fn = Tryz.f5 := (Option.some.inj (Tryz.func5.symm.trans hfn)).symm
      exact ⟨by kernel_rfl, fun j t ht => by
        rw [Tryz.params5] at ht
        have hm : t ∈ [22] := by simpa using Array.mem_of_getElem? ht
        have hall : ([22].all fun u => !Tryz.prog.wantsStandIn u) = true := by kernel_rfl
        exact (show Tryz.prog.wantsStandIn t = false by simpa using List.all_eq_true.1 hall t hm)⟩)
    (by kernel_rfl)
#print axioms proved
end Go.Proofs.YthbkmnladaneaaaGreatDoor.fnScriptWhat
