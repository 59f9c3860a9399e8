/-
  The statement FnSharesMost: the law returns true for every input, and what was there before the call has not turned.
  No condition beyond the given statement.
-/
import Derived.Test.YthkoafcbcnobhaaRows
import Derived.WalkKit
import Derived.ProofKit
import Derived.OpenShut
import Derived.ShutString
import Derived.ChangeOld
import Derived.Below
import Derived.Test.YthkoafcbcnobhaaDrwD
import Derived.Test.YthkoafcbcnobhaaShL
import Derived.Test.YthkoafcbcnobhaaShG
namespace Go.Proofs.Ythkoafcbcnobhaa.fnSharesMost
open Go.ChangeShapes Go.WideShapes Go.ChangeAt Go.RowKit
open Go.ChangeMaps (open_string shut_string)
set_option linter.unusedVariables false

theorem own : ownKnob Try.prog.godebug = none := by kernel_rfl
theorem laidOut : laidOutB Try.prog = true := by kernel_rfl

/-- WHAT THE WALK IS TOLD OF A SLICE OF INTEGERS THAT CAME IN: it is nil; or it leads to a row of 'cap' cells, the numbers 'zs' (the first 'len' are its elements, the rest its spare room), each fitting its kind. -/
def IsRow (k : IntKind) (w : World) (a : Option Addr) (len cap : Nat) (zs : List Int) : Prop :=
  (a = none ∧ len = 0 ∧ cap = 0 ∧ zs = []) ∨
  ∃ x, a = some x ∧ len ≤ cap ∧ cap ≤ maxLen ∧ zs.length = cap ∧ (∀ i, i < zs.length → w.cell? (x.add i) = some (.int k (zs.getD i 0))) ∧ ∀ n ∈ zs, (Lit.int k n).wf = true


/-! ### STEP 1: THE WALK: the Go text returns true, AND WRITES NOTHING THAT WAS THERE: 'Below w.heap.size w w'' (Derived/Below.lean: '.refl', '.alloc', '.drew', '.setCell' at a new block, '.trans'). Open each 'IsRow' by 'rcases' AHEAD of 'go_enter'; part every test ahead of the walk. -/
set_option maxHeartbeats 4000000 in
set_option maxRecDepth 100000 in
theorem walk (a0 : Option Addr) (len0 cap0 : Nat) (z0 : List Int) (w : World) (w0 : IsRow .u8 w a0 len0 cap0 z0) :
    Calls Try.prog 9 #[.slice a0 len0 cap0] w fun e w' => e = .returned (.bool true) ∧ Below w.heap.size w w' := by
  obtain ⟨hb, hnc, hc⟩ := bytes_of_row w0
  have hcm := hc
  unfold maxLen at hcm
  by_cases hbig : 1048576 < len0
  · have e1 : decide (1048576 < len0) = true := by simpa using hbig
    go_enter Try.func9, Try.ntmps9
    go_wp2
    go_ret
    exact ⟨rfl, Below.refl _ _⟩
  have e1 : decide (1048576 < len0) = false := by simpa using hbig
  obtain ⟨i0, hi0, hz0', hz1', hz2'⟩ := info_parts int1_info
  obtain ⟨i1, hi1, hd0', hd1', hd2'⟩ := info_parts demi_info
  go_enter Try.func9, Try.ntmps9
  go_wp2_with fail
  refine (draw_shares a0 len0 cap0 _ hb hnc hc).mono ?_
  rintro e w1 ⟨v, xs, z, rfl, hx7, hown, hz0, hz1, hb1⟩
  obtain ⟨A, c, rfl, hnc1, hcm1, hD⟩ := own_shape hown
  have hs1 := hb1.size
  replace hD : Dms w1 w1.heap.size A xs.length xs := hD
  clear hown
  obtain ⟨n, HL⟩ : ∃ n, xs.length = n := ⟨_, rfl⟩
  rw [HL] at hD hx7 hnc1
  rw [HL]
  replace HL := Lib.hid HL
  by_cases q : shIn xs z
  · have HQ := Lib.hid q
    have hn6 : n ≤ 6 := by have := q.1.1; rw [HL.out] at this; exact this
    clear q
    go_wp2_with fail
    refine (ish_good A n c xs z w1 hD (by omega) HQ.out).mono ?_
    rintro e w2 ⟨A2, c2, rfl, hnc2, hcm2, ho2, hb2⟩
    have HO2 := Lib.hid ho2
    clear ho2
    go_wp2_with fail
    refine (ssh_good A n c xs z w2 ((hD.below hb2).more hb2.size) (by omega) HQ.out).mono ?_
    rintro e w3 ⟨A3, c3, rfl, -, -, ho3, hb3⟩
    have HI2 := Lib.hid (show Ints w3 w3.heap.size A2 n (shL xs z) from Sl.of_own (own_below HO2.out hb3))
    have HI3 := Lib.hid (show Ints w3 w3.heap.size A3 n (shL xs z) from Sl.of_own ho3)
    have hB3 : Below w1.heap.size w1 w3 := hb2.trans (hb3.mono hb2.size)
    clear ho3
    go_wp2_with fail
    refine (sameI_same A2 A3 n c2 c3 _ (shL xs z) w3 HI2.out HI3.out (by omega)).mono ?_
    rintro e w4 ⟨rfl, hb4⟩
    have hB4 := hB3.trans (hb4.mono hB3.size)
    have hI4 := (HI2.out.below hb4).more hb4.size
    have HB4 := Lib.hid hB4
    have hD4 : Dms w4 w4.heap.size A n xs := (hD.below hB4).more hB4.size
    clear hB4 hI4
    go_wp2
    go_loopw [9, 10] (fun sv i wr => ∃ (k : Nat) (s : Int), k ≤ n ∧ i = .int .i64 k ∧ sv = .int .i64 s ∧ Hid (hiTo xs k = s) ∧ Below w1.heap.size w1 wr) (fun _ i _ => n - (intOf i).toNat)
    case atStart => exact ⟨0, 0, by omega, rfl, rfl, rfl, HB4.out⟩
    case round =>
      obtain ⟨k, s, hk, rfl, rfl, hok, hB⟩ := hrel
      have hbs := hB.size
      by_cases hlt : k < n
      · have e3 : decide (k < n) = true := by simpa using hlt
        obtain ⟨b, off, rfl, hbb, hcell⟩ := hD.addr (by omega)
        obtain ⟨d, hd⟩ : ∃ d, xs[k]? = some d := ⟨_, List.getElem?_eq_getElem (by rw [HL.out]; omega)⟩
        obtain ⟨-, -, -, c3'⟩ := hcell k d hd
        replace c3' := (hB.cell (p := ⟨b, off + k * 4 + 3, none⟩) hbb).trans c3'
        have hnx := Lib.hid (show hiTo xs (k + 1) = s + d.hi by rw [← hok.out, ← dX_of hd]; rfl)
        have hsb := hi_bd HQ.out.1 k (by rw [HL.out]; omega)
        rw [hok.out] at hsb
        have hdo := lOk_at HQ.out.1 hd
        unfold dOk at hdo
        clear hcell hd
        go_wp2
        go_roundw
        case rel => exact ⟨k + 1, _, by omega, by go_num, rfl, hnx.out, hB⟩
        case measure => simp [intOf]; omega
      · have hkn : k = n := by omega
        subst hkn
        have hI := hi_in HQ.out.1
        rw [HL.out, hok.out] at hI
        have HI := Lib.hid hI
        have HZ := Lib.hid (show shIn xs 0 from ⟨HQ.out.1, by omega, by omega⟩)
        have HM := Lib.hid (fun j hj => shL_most HQ.out.1 (j := j) hj)
        have HN := Lib.hid (fun j hj => shL_zero HQ.out.1 (j := j) hj)
        rw [HL.out, hok.out] at HM
        rw [HL.out] at HN
        clear hI
        go_wp2_with fail
        refine (ish_good A k c xs s wr ((hD.below hB).more hbs) (by omega) HI.out).mono ?_
        rintro e w5 ⟨A5, c5, rfl, -, -, ho5, hb5⟩
        have HO5 := Lib.hid ho5
        have hB5 := hB.trans (hb5.mono hbs)
        clear ho5
        go_wp2_with fail
        refine (ish_good A k c xs 0 w5 ((hD.below hB5).more hB5.size) (by omega) HZ.out).mono ?_
        rintro e w6 ⟨A6, c6, rfl, -, -, ho6, hb6⟩
        have hI5 : Ints w6 w6.heap.size A5 k (shL xs s) := Sl.of_own (own_below HO5.out hb6)
        have hI6 : Ints w6 w6.heap.size A6 k (shL xs 0) := Sl.of_own ho6
        have hB6 := hB5.trans (hb6.mono hB5.size)
        clear ho6
        go_wp2
        go_loopw [15] (fun i wr => ∃ (j m : Nat), j ≤ k ∧ i = .int .i64 j ∧ wr = w6.drewN m) (fun i _ => k - (intOf i).toNat)
        case atStart => exact ⟨0, 0, by omega, rfl, rfl⟩
        case round =>
          obtain ⟨j, m, hj, rfl, rfl⟩ := hrel
          by_cases hlt2 : j < k
          · have e3 : decide (j < k) = true := by simpa using hlt2
            obtain ⟨b5, o5, rfl, -, hc5⟩ := hI5.at_ (by omega)
            obtain ⟨b6, o6, rfl, -, hc6⟩ := hI6.at_ (by omega)
            have d5 := hc5 j hlt2
            have d6 := hc6 j hlt2
            rw [show (shL xs s)[j]?.getD 0 = 2 from HM.out j hlt2] at d5
            rw [show (shL xs 0)[j]?.getD 0 = -1 from HN.out j hlt2] at d6
            clear hc5 hc6
            go_wp2
            (try (go_quiet (fail); go_wp2))
            go_roundw
            case rel => exact ⟨j + 1, _, by omega, by go_num, rfl⟩
            case measure => simp [intOf]; omega
          · have hjk : j = k := by omega
            subst hjk
            go_wp2
            go_ret
            exact ⟨rfl, (hb1.trans (hB6.mono hs1)).trans (Below.drewN' (Below.refl _ _) _)⟩
  · have HQ := Lib.hid q
    clear q
    go_wp2_with fail
    refine (ish_bad A n c xs z w1 hD (by omega) HQ.out).mono ?_
    rintro e w2 ⟨A2, c2, rfl, -, -, ho2, hb2⟩
    have HO2 := Lib.hid ho2
    clear ho2
    go_wp2_with fail
    refine (ssh_bad A n c xs z w2 ((hD.below hb2).more hb2.size) (by omega) HQ.out).mono ?_
    rintro e w3 ⟨A3, c3, rfl, -, -, ho3, hb3⟩
    have HI2 := Lib.hid (show Ints w3 w3.heap.size A2 0 [] from Sl.of_own (own_below HO2.out hb3))
    have HI3 := Lib.hid (show Ints w3 w3.heap.size A3 0 [] from Sl.of_own ho3)
    have hB3 : Below w.heap.size w w3 := (hb1.trans (hb2.mono hs1)).trans (hb3.mono (hb1.trans (hb2.mono hs1)).size)
    clear ho3
    go_wp2_with fail
    refine (sameI_same A2 A3 0 c2 c3 _ [] w3 HI2.out HI3.out (by omega)).mono ?_
    rintro e w4 ⟨rfl, hb4⟩
    have hB4 := hB3.trans (hb4.mono hB3.size)
    go_wp2_with fail
    refine (sameI_same A2 A3 0 c2 c3 _ [] w4 ((HI2.out.below hb4).more hb4.size) ((HI3.out.below hb4).more hb4.size) (by omega)).mono ?_
    rintro e w5 ⟨rfl, hb5⟩
    go_wp2
    go_ret
    exact ⟨rfl, hB4.trans (hb5.mono hB4.size)⟩

/-! ### THE ROW's STEP: WRITTEN OUT: LEAVE IT -/
set_option maxRecDepth 100000 in
theorem lifted (os : Os) (started : os.Started) (H : Type) (enc : TypeId × Value → H) :
    ReturnsInHanded {} Try.checked os 9 .any (Rows.fnSharesMostSpec.pre6 enc Try.prog Try.f9 Rows.fnSharesMostRow.domain false) (Rows.fnSharesMostSpec.post enc Try.prog Try.f9 false true false false) := by
  refine returnsInHanded_of_change (C := Try.checked) own started (by kernel_rfl) Try.func9
    (ChangeSpec.witness6 (enc := enc) (C := Try.checked) false ⟨#[], #[.slice none 0 0], []⟩ 8 (by kernel_rfl) (by kernel_rfl) (by kernel_rfl) (by kernel_rfl)) ?_
  intro W base args ds gs before hval0 hW hcnd _
  have hval : ∀ (j : Nat) t v, Try.f9.params[j]? = some t → args[j]? = some v → Value.okWide Try.prog W .any base t v := hval0
  have hW' := hW
  obtain ⟨p, q, hA0, hV, rfl, hfz, hnd⟩ := hW
  have hA : DataW.TrodAll enc Try.prog W 0 (fun _ => true) true Try.f9.params.toList args.toList ds p := hA0
  rw [Try.params9] at hA hval
  obtain ⟨v0, vs0, d0, ds0, p0, q0, hargs, rfl, rfl, h0, r0⟩ := trodAll_cons hA
  obtain ⟨rfl, rfl, rfl⟩ := trodAll_nil r0
  obtain rfl : args = #[v0] := by cases args; simp_all
  obtain ⟨rfl, rfl⟩ := trodVars_none hV
  obtain ⟨a0, len0, cap0, rfl⟩ := okWide_slice Try.underlying32 (hval 0 32 v0 rfl rfl)
  have k0 := h0
  have lt0 : ∀ x ∈ p0, x.block < W.heap.size := by obtain ⟨m, hm⟩ := k0; exact DataW.trod_lt m _ _ _ hm
  obtain ⟨z0, w0⟩ : ∃ zs, IsRow .u8 W a0 len0 cap0 zs := by
    obtain ⟨fuel, hf⟩ := h0
    rcases open_ints Try.underlying32 Try.underlying5 (by kernel_rfl) hf with ⟨hcs, _⟩ | ⟨x, l, c, zs, hcs, _, hl, hm, hz, _, hcell, hwz⟩
    · simp [Value.cells] at hcs
      obtain ⟨rfl, rfl, rfl⟩ := hcs
      exact ⟨[], .inl ⟨rfl, rfl, rfl, rfl⟩⟩
    · simp [Value.cells] at hcs
      obtain ⟨rfl, rfl, rfl⟩ := hcs
      exact ⟨zs, .inr ⟨_, rfl, hl, hm, by simpa using hz, hcell, hwz⟩⟩
  clear hA0 hval0
  refine (walk a0 len0 cap0 z0 W w0).mono fun e W' ⟨he, bel⟩ => ?_
  subst he
  exact ⟨_, rfl, _, _, _, [], _, [], hW', trodAll_mk1 (shut_bool Try.underlying4 _), (trodAll_cons_mk (Below.trod laidOut (by kernel_rfl) (of_decide_eq_true (by kernel_rfl)) k0 bel lt0) trodAll_mk0), rfl, bel.frame _, fun h => by cases h⟩

theorem over : Rows.fnSharesMostRow.holds Try.pinned (OpenSpec.ofChange Rows.fnSharesMostSpec) :=
  OpenClaim.holds_of_wide 9 Try.f9 rfl rfl rfl rfl rfl rfl rfl ⟨rfl, rfl, rfl, rfl, rfl⟩ rfl rfl rfl rfl rfl (by kernel_rfl) Try.func9 (by kernel_rfl)
    (of_decide_eq_true (by kernel_rfl)) (by unfold Func.isWrapper; first | (rw [if_pos (by decide +kernel)]; kernel_rfl) | (rw [if_neg (by decide +kernel)]; exact ⟨rfl, rfl⟩))
    (fun os started H enc _ => lifted os started H enc)

/--  THE STATEMENT  -/
theorem proved : Rows.FnSharesMostSaid := over
#print axioms proved
end Go.Proofs.Ythkoafcbcnobhaa.fnSharesMost
