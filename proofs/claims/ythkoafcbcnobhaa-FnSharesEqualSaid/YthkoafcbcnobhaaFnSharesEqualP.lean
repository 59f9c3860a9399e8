/-
  The statement FnSharesEqual: the law returns true for every input, and what was there before the call has not turned.
  No condition beyond the given statement.
-/
import Derived.Test.YthkoafcbcnobhaaRows
import Derived.WalkKit
import Derived.ProofKit
import Derived.OpenShut
import Derived.ShutString
import Derived.ChangeOld
import Derived.Below
import Derived.Test.YthkoafcbcnobhaaDrwD
import Derived.Test.YthkoafcbcnobhaaShL
import Derived.Test.YthkoafcbcnobhaaShG
namespace Go.Proofs.Ythkoafcbcnobhaa.fnSharesEqual
open Go.ChangeShapes Go.WideShapes Go.ChangeAt Go.RowKit
open Go.ChangeMaps (open_string shut_string)
set_option linter.unusedVariables false

theorem own : ownKnob Try.prog.godebug = none := by kernel_rfl
theorem laidOut : laidOutB Try.prog = true := by kernel_rfl

/-- WHAT THE WALK IS TOLD OF A SLICE OF INTEGERS THAT CAME IN: it is nil; or it leads to a row of 'cap' cells, the numbers 'zs' (the first 'len' are its elements, the rest its spare room), each fitting its kind. -/
def IsRow (k : IntKind) (w : World) (a : Option Addr) (len cap : Nat) (zs : List Int) : Prop :=
  (a = none ∧ len = 0 ∧ cap = 0 ∧ zs = []) ∨
  ∃ x, a = some x ∧ len ≤ cap ∧ cap ≤ maxLen ∧ zs.length = cap ∧ (∀ i, i < zs.length → w.cell? (x.add i) = some (.int k (zs.getD i 0))) ∧ ∀ n ∈ zs, (Lit.int k n).wf = true


/-! ### STEP 1: THE WALK: the Go text returns true, AND WRITES NOTHING THAT WAS THERE: 'Below w.heap.size w w'' (Derived/Below.lean: '.refl', '.alloc', '.drew', '.setCell' at a new block, '.trans'). Open each 'IsRow' by 'rcases' AHEAD of 'go_enter'; part every test ahead of the walk. -/
set_option maxHeartbeats 4000000 in
set_option maxRecDepth 100000 in
theorem walk (a0 : Option Addr) (len0 cap0 : Nat) (z0 : List Int) (w : World) (w0 : IsRow .u8 w a0 len0 cap0 z0) :
    Calls Try.prog 8 #[.slice a0 len0 cap0] w fun e w' => e = .returned (.bool true) ∧ Below w.heap.size w w' := by
  obtain ⟨hb, hnc, hc⟩ := bytes_of_row w0
  have hcm := hc
  unfold maxLen at hcm
  by_cases hbig : 1048576 < len0
  · have e1 : decide (1048576 < len0) = true := by simpa using hbig
    go_enter Try.func8, Try.ntmps8
    go_wp2
    go_ret
    exact ⟨rfl, Below.refl _ _⟩
  have e1 : decide (1048576 < len0) = false := by simpa using hbig
  obtain ⟨i0, hi0, hz0', hz1', hz2'⟩ := info_parts int1_info
  obtain ⟨i1, hi1, hd0', hd1', hd2'⟩ := info_parts demi_info
  go_enter Try.func8, Try.ntmps8
  go_wp2_with fail
  refine (draw_shares a0 len0 cap0 _ hb hnc hc).mono ?_
  rintro e w1 ⟨v, xs, z, rfl, hx7, hown, hz0, hz1, hb1⟩
  obtain ⟨A, c, rfl, hnc1, hcm1, hD⟩ := own_shape hown
  have hs1 := hb1.size
  replace hD : Dms w1 w1.heap.size A xs.length xs := hD
  clear hown
  obtain ⟨n, HL⟩ : ∃ n, xs.length = n := ⟨_, rfl⟩
  rw [HL] at hD hx7 hnc1
  rw [HL]
  replace HL := Lib.hid HL
  by_cases q : shIn xs z
  · have HQ := Lib.hid q
    have hn6 : n ≤ 6 := by have := q.1.1; rw [HL.out] at this; exact this
    clear q
    go_wp2_with fail
    refine (ish_good A n c xs z w1 hD (by omega) HQ.out).mono ?_
    rintro e w2 ⟨A2, c2, rfl, hnc2, hcm2, ho2, hb2⟩
    have HO2 := Lib.hid ho2
    clear ho2
    go_wp2_with fail
    refine (ssh_good A n c xs z w2 ((hD.below hb2).more hb2.size) (by omega) HQ.out).mono ?_
    rintro e w3 ⟨A3, c3, rfl, -, -, ho3, hb3⟩
    have HI2 := Lib.hid (show Ints w3 w3.heap.size A2 n (shL xs z) from Sl.of_own (own_below HO2.out hb3))
    have HI3 := Lib.hid (show Ints w3 w3.heap.size A3 n (shL xs z) from Sl.of_own ho3)
    have hB3 : Below w1.heap.size w1 w3 := hb2.trans (hb3.mono hb2.size)
    clear ho3
    go_wp2_with fail
    refine (sameI_same A2 A3 n c2 c3 _ (shL xs z) w3 HI2.out HI3.out (by omega)).mono ?_
    rintro e w4 ⟨rfl, hb4⟩
    have hB4 := hB3.trans (hb4.mono hB3.size)
    have hI4 := (HI2.out.below hb4).more hb4.size
    by_cases h0 : n = 0
    · subst h0
      have q0 : (((0 : Nat) : Int) == 0) = true := by simp
      go_wp2_with fail
      refine (sameI_same A2 A3 0 c2 c3 _ (shL xs z) w4 hI4 ((HI3.out.below hb4).more hb4.size) (by omega)).mono ?_
      rintro e w5 ⟨rfl, hb5⟩
      go_wp2
      go_ret
      exact ⟨rfl, hb1.trans ((hB4.trans (hb5.mono hB4.size)).mono hs1)⟩
    have q0 : ((n : Int) == 0) = false := by simpa using h0
    obtain ⟨b, off, rfl, hbb, hcell⟩ := hD.addr (by omega)
    obtain ⟨d, hd⟩ : ∃ d, xs[0]? = some d := ⟨_, List.getElem?_eq_getElem (by rw [HL.out]; omega)⟩
    obtain ⟨c0, c1, c2', c3'⟩ := hcell 0 d hd
    simp only [Nat.zero_mul, Nat.add_zero] at c0 c1 c2' c3'
    have HR := Lib.hid (shIn_rep HQ.out hd)
    have HE := Lib.hid (own_empty w4 w1.heap.size 46 4 hB4.size)
    have HB0 := Lib.hid (hB4.alloc hB4.size (.cells #[] 46))
    clear hcell hd
    go_wp2
    go_loopw [9, 10] (fun v i wr => ∃ (k : Nat), k ≤ 6 ∧ i = .int .i64 k ∧ wr.ownsRow w1.heap.size 46 4 v k ((List.replicate k d).flatMap Dm.c) ∧ Below w1.heap.size w1 wr) (fun _ i _ => 6 - (intOf i).toNat)
    case atStart => exact ⟨0, by omega, rfl, by simpa using HE.out, HB0.out⟩
    case round =>
      clear HE HB0
      obtain ⟨k, hk, rfl, hown, hB⟩ := hrel
      have hbs := hB.size
      by_cases hlt : k < 6
      · have e3 : decide ((k : Int) < 6) = true := by simp; omega
        have HOW := Lib.hid hown
        have HNB := Lib.hid (show Sl (wr.alloc (.cells #[.int .i64 d.we, .int .i64 d.lo, .int .i64 d.mi, .int .i64 d.hi] 46)) (wr.heap.size + 1) 4 (some ⟨wr.heap.size, 0, none⟩) 1 d.c from ⟨rfl, fun _ => ⟨wr.heap.size, 0, rfl, by omega, fun j u hu => by
          rw [Nat.zero_add, (Bk.new wr 46 #[.int .i64 d.we, .int .i64 d.lo, .int .i64 d.mi, .int .i64 d.hi]).cell j]; simpa [Dm.c] using hu⟩⟩)
        replace c0 := (hB.cell (p := ⟨b, off, none⟩) hbb).trans c0
        replace c1 := (hB.cell (p := ⟨b, off + 1, none⟩) hbb).trans c1
        replace c2' := (hB.cell (p := ⟨b, off + 2, none⟩) hbb).trans c2'
        replace c3' := (hB.cell (p := ⟨b, off + 3, none⟩) hbb).trans c3'
        clear hown
        go_wp2_with (at_builtin; refine wpList_app _ rfl _ _ 26 rfl w1.heap.size 46 i1 (.agg #[.int .i64 0, .int .i64 0, .int .i64 0, .int .i64 0]) 4 32 Try.underlying26 hi1 hd0' hd1' hd2' rfl (by omega) _ k _ rfl (HOW.out.alloc _) (wr.heap.size + 1) (some ⟨wr.heap.size, 0, none⟩) 1 1 _ rfl HNB.out (one_dm _) (by unfold maxLen; omega) (by omega) (by simp; omega) ?_; intro v2 w6 hown2 hgrow hat)
        have hB6 : Below w1.heap.size w1 w6 := Below.grown_own (hB.alloc hbs (.cells #[.int .i64 d.we, .int .i64 d.lo, .int .i64 d.mi, .int .i64 d.hi] 46)) hgrow (HOW.out.alloc _) (Nat.le_refl _) (by simp; omega)
        have HO2' := Lib.hid (show w6.ownsRow w1.heap.size 46 4 v2 (k + 1) ((List.replicate (k + 1) d).flatMap Dm.c) by rw [List.replicate_succ', List.flatMap_append]; simpa using hown2)
        clear hown2 hgrow hat
        go_wp2
        go_roundw
        case rel => exact ⟨k + 1, by omega, by go_num, HO2'.out, hB6⟩
        case measure => simp [intOf]; omega
      · have hk6 : k = 6 := by omega
        subst hk6
        obtain ⟨A6, c6, rfl, hnc6, hcm6, hD6⟩ := own_shape hown
        replace hD6 : Dms wr wr.heap.size A6 6 (List.replicate 6 d) := hD6
        have HM := Lib.hid (fun i hi => shL_mono HR.out (i := i) hi)
        clear hown c0 c1 c2' c3'
        go_wp2_with fail
        refine (ish_good A6 6 c6 (List.replicate 6 d) z wr hD6 (by omega) HR.out).mono ?_
        rintro e w7 ⟨A7, c7, rfl, -, -, ho7, hb7⟩
        have hI7 : Ints w7 w7.heap.size A7 6 (shL (List.replicate 6 d) z) := Sl.of_own ho7
        obtain ⟨b7, o7, rfl, -, hcell7⟩ := hI7.at_ (by omega)
        have hB7 := hB.trans (hb7.mono hbs)
        clear ho7 hI7
        go_wp2
        go_loopw [13] (fun i wr => ∃ (k m : Nat), 1 ≤ k ∧ k ≤ 6 ∧ i = .int .i64 k ∧ wr = w7.drewN m) (fun i _ => 6 - (intOf i).toNat)
        case atStart => exact ⟨1, 0, by omega, by omega, rfl, rfl⟩
        case round =>
          obtain ⟨k, m, hk1, hk, rfl, rfl⟩ := hrel
          by_cases hlt : k < 6
          · have e3 : decide ((k : Int) < 6) = true := by simp; omega
            obtain ⟨j, rfl⟩ : ∃ j, k = j + 1 := ⟨k - 1, by omega⟩
            have d0 := hcell7 (j + 1) hlt
            have d1 := hcell7 j (by omega)
            have hle := HM.out j hlt
            unfold lX at hle
            have hcell7' := Lib.hid hcell7
            generalize (shL (List.replicate 6 d) z)[j]?.getD 0 = l0 at *
            generalize (shL (List.replicate 6 d) z)[j + 1]?.getD 0 = l1 at *
            have e4 : decide (l0 < l1) = false := by simp; omega
            clear hcell7
            go_wp2
            go_quiet (fail)
            go_wp2
            go_roundw
            case rel => exact ⟨j + 2, _, by omega, by omega, by go_num, rfl⟩
            case measure => simp [intOf]; omega
          · have hk6' : k = 6 := by omega
            subst hk6'
            clear hcell7
            go_wp2
            go_ret
            exact ⟨rfl, (hb1.trans (hB7.mono hs1)).trans (Below.drewN' (Below.refl _ _) _)⟩
  · have HQ := Lib.hid q
    clear q
    go_wp2_with fail
    refine (ish_bad A n c xs z w1 hD (by omega) HQ.out).mono ?_
    rintro e w2 ⟨A2, c2, rfl, -, -, ho2, hb2⟩
    have HO2 := Lib.hid ho2
    clear ho2
    go_wp2_with fail
    refine (ssh_bad A n c xs z w2 ((hD.below hb2).more hb2.size) (by omega) HQ.out).mono ?_
    rintro e w3 ⟨A3, c3, rfl, -, -, ho3, hb3⟩
    have HI2 := Lib.hid (show Ints w3 w3.heap.size A2 0 [] from Sl.of_own (own_below HO2.out hb3))
    have HI3 := Lib.hid (show Ints w3 w3.heap.size A3 0 [] from Sl.of_own ho3)
    have hB3 : Below w.heap.size w w3 := (hb1.trans (hb2.mono hs1)).trans (hb3.mono (hb1.trans (hb2.mono hs1)).size)
    clear ho3
    go_wp2_with fail
    refine (sameI_same A2 A3 0 c2 c3 _ [] w3 HI2.out HI3.out (by omega)).mono ?_
    rintro e w4 ⟨rfl, hb4⟩
    have hB4 := hB3.trans (hb4.mono hB3.size)
    go_wp2_with fail
    refine (sameI_same A2 A3 0 c2 c3 _ [] w4 ((HI2.out.below hb4).more hb4.size) ((HI3.out.below hb4).more hb4.size) (by omega)).mono ?_
    rintro e w5 ⟨rfl, hb5⟩
    go_wp2
    go_ret
    exact ⟨rfl, hB4.trans (hb5.mono hB4.size)⟩

/-! ### THE ROW's STEP: WRITTEN OUT: LEAVE IT -/
set_option maxRecDepth 100000 in
theorem lifted (os : Os) (started : os.Started) (H : Type) (enc : TypeId × Value → H) :
    ReturnsInHanded {} Try.checked os 8 .any (Rows.fnSharesEqualSpec.pre6 enc Try.prog Try.f8 Rows.fnSharesEqualRow.domain false) (Rows.fnSharesEqualSpec.post enc Try.prog Try.f8 false true false false) := by
  refine returnsInHanded_of_change (C := Try.checked) own started (by kernel_rfl) Try.func8
    (ChangeSpec.witness6 (enc := enc) (C := Try.checked) false ⟨#[], #[.slice none 0 0], []⟩ 8 (by kernel_rfl) (by kernel_rfl) (by kernel_rfl) (by kernel_rfl)) ?_
  intro W base args ds gs before hval0 hW hcnd _
  have hval : ∀ (j : Nat) t v, Try.f8.params[j]? = some t → args[j]? = some v → Value.okWide Try.prog W .any base t v := hval0
  have hW' := hW
  obtain ⟨p, q, hA0, hV, rfl, hfz, hnd⟩ := hW
  have hA : DataW.TrodAll enc Try.prog W 0 (fun _ => true) true Try.f8.params.toList args.toList ds p := hA0
  rw [Try.params8] at hA hval
  obtain ⟨v0, vs0, d0, ds0, p0, q0, hargs, rfl, rfl, h0, r0⟩ := trodAll_cons hA
  obtain ⟨rfl, rfl, rfl⟩ := trodAll_nil r0
  obtain rfl : args = #[v0] := by cases args; simp_all
  obtain ⟨rfl, rfl⟩ := trodVars_none hV
  obtain ⟨a0, len0, cap0, rfl⟩ := okWide_slice Try.underlying32 (hval 0 32 v0 rfl rfl)
  have k0 := h0
  have lt0 : ∀ x ∈ p0, x.block < W.heap.size := by obtain ⟨m, hm⟩ := k0; exact DataW.trod_lt m _ _ _ hm
  obtain ⟨z0, w0⟩ : ∃ zs, IsRow .u8 W a0 len0 cap0 zs := by
    obtain ⟨fuel, hf⟩ := h0
    rcases open_ints Try.underlying32 Try.underlying5 (by kernel_rfl) hf with ⟨hcs, _⟩ | ⟨x, l, c, zs, hcs, _, hl, hm, hz, _, hcell, hwz⟩
    · simp [Value.cells] at hcs
      obtain ⟨rfl, rfl, rfl⟩ := hcs
      exact ⟨[], .inl ⟨rfl, rfl, rfl, rfl⟩⟩
    · simp [Value.cells] at hcs
      obtain ⟨rfl, rfl, rfl⟩ := hcs
      exact ⟨zs, .inr ⟨_, rfl, hl, hm, by simpa using hz, hcell, hwz⟩⟩
  clear hA0 hval0
  refine (walk a0 len0 cap0 z0 W w0).mono fun e W' ⟨he, bel⟩ => ?_
  subst he
  exact ⟨_, rfl, _, _, _, [], _, [], hW', trodAll_mk1 (shut_bool Try.underlying4 _), (trodAll_cons_mk (Below.trod laidOut (by kernel_rfl) (of_decide_eq_true (by kernel_rfl)) k0 bel lt0) trodAll_mk0), rfl, bel.frame _, fun h => by cases h⟩

theorem over : Rows.fnSharesEqualRow.holds Try.pinned (OpenSpec.ofChange Rows.fnSharesEqualSpec) :=
  OpenClaim.holds_of_wide 8 Try.f8 rfl rfl rfl rfl rfl rfl rfl ⟨rfl, rfl, rfl, rfl, rfl⟩ rfl rfl rfl rfl rfl (by kernel_rfl) Try.func8 (by kernel_rfl)
    (of_decide_eq_true (by kernel_rfl)) (by unfold Func.isWrapper; first | (rw [if_pos (by decide +kernel)]; kernel_rfl) | (rw [if_neg (by decide +kernel)]; exact ⟨rfl, rfl⟩))
    (fun os started H enc _ => lifted os started H enc)

/--  THE STATEMENT  -/
theorem proved : Rows.FnSharesEqualSaid := over
#print axioms proved
end Go.Proofs.Ythkoafcbcnobhaa.fnSharesEqual
