/-
  The statement FnSharesFull: the law returns true for every input, and what was there before the call has not turned.
  No condition beyond the given statement.
-/
import Derived.Test.YthkoafcbcnobhaaRows
import Derived.WalkKit
import Derived.ProofKit
import Derived.OpenShut
import Derived.ShutString
import Derived.ChangeOld
import Derived.Below
import Derived.Test.YthkoafcbcnobhaaDrwD
import Derived.Test.YthkoafcbcnobhaaShL
import Derived.Test.YthkoafcbcnobhaaShG
namespace Go.Proofs.Ythkoafcbcnobhaa.fnSharesFull
open Go.ChangeShapes Go.WideShapes Go.ChangeAt Go.RowKit
open Go.ChangeMaps (open_string shut_string)
set_option linter.unusedVariables false

theorem own : ownKnob Try.prog.godebug = none := by kernel_rfl
theorem laidOut : laidOutB Try.prog = true := by kernel_rfl

/-- WHAT THE WALK IS TOLD OF A SLICE OF INTEGERS THAT CAME IN: it is nil; or it leads to a row of 'cap' cells, the numbers 'zs' (the first 'len' are its elements, the rest its spare room), each fitting its kind. -/
def IsRow (k : IntKind) (w : World) (a : Option Addr) (len cap : Nat) (zs : List Int) : Prop :=
  (a = none ∧ len = 0 ∧ cap = 0 ∧ zs = []) ∨
  ∃ x, a = some x ∧ len ≤ cap ∧ cap ≤ maxLen ∧ zs.length = cap ∧ (∀ i, i < zs.length → w.cell? (x.add i) = some (.int k (zs.getD i 0))) ∧ ∀ n ∈ zs, (Lit.int k n).wf = true


/-! ### STEP 1: THE WALK: the Go text returns true, AND WRITES NOTHING THAT WAS THERE: 'Below w.heap.size w w'' (Derived/Below.lean: '.refl', '.alloc', '.drew', '.setCell' at a new block, '.trans'). Open each 'IsRow' by 'rcases' AHEAD of 'go_enter'; part every test ahead of the walk. -/
set_option maxHeartbeats 4000000 in
set_option maxRecDepth 100000 in
theorem walk (a0 : Option Addr) (len0 cap0 : Nat) (z0 : List Int) (w : World) (w0 : IsRow .u8 w a0 len0 cap0 z0) :
    Calls Try.prog 11 #[.slice a0 len0 cap0] w fun e w' => e = .returned (.bool true) ∧ Below w.heap.size w w' := by
  obtain ⟨hb, hnc, hc⟩ := bytes_of_row w0
  have hcm := hc
  unfold maxLen at hcm
  by_cases hbig : 1048576 < len0
  · have e1 : decide (1048576 < len0) = true := by simpa using hbig
    go_enter Try.func11, Try.ntmps11
    go_wp2
    go_ret
    exact ⟨rfl, Below.refl _ _⟩
  have e1 : decide (1048576 < len0) = false := by simpa using hbig
  obtain ⟨i0, hi0, hz0', hz1', hz2'⟩ := info_parts int1_info
  obtain ⟨i1, hi1, hd0', hd1', hd2'⟩ := info_parts demi_info
  go_enter Try.func11, Try.ntmps11
  go_wp2_with fail
  refine (draw_shares a0 len0 cap0 _ hb hnc hc).mono ?_
  rintro e w1 ⟨v, xs, z, rfl, hx7, hown, hz0, hz1, hb1⟩
  obtain ⟨A, c, rfl, hnc1, hcm1, hD⟩ := own_shape hown
  have hs1 := hb1.size
  replace hD : Dms w1 w1.heap.size A xs.length xs := hD
  clear hown
  obtain ⟨n, HL⟩ : ∃ n, xs.length = n := ⟨_, rfl⟩
  rw [HL] at hD hx7 hnc1
  rw [HL]
  replace HL := Lib.hid HL
  by_cases q : shIn xs z
  · have HQ := Lib.hid q
    have hn6 : n ≤ 6 := by have := q.1.1; rw [HL.out] at this; exact this
    clear q
    go_wp2_with fail
    refine (ish_good A n c xs z w1 hD (by omega) HQ.out).mono ?_
    rintro e w2 ⟨A2, c2, rfl, hnc2, hcm2, ho2, hb2⟩
    have HO2 := Lib.hid ho2
    clear ho2
    go_wp2_with fail
    refine (ssh_good A n c xs z w2 ((hD.below hb2).more hb2.size) (by omega) HQ.out).mono ?_
    rintro e w3 ⟨A3, c3, rfl, -, -, ho3, hb3⟩
    have HI2 := Lib.hid (show Ints w3 w3.heap.size A2 n (shL xs z) from Sl.of_own (own_below HO2.out hb3))
    have HI3 := Lib.hid (show Ints w3 w3.heap.size A3 n (shL xs z) from Sl.of_own ho3)
    have hB3 : Below w1.heap.size w1 w3 := hb2.trans (hb3.mono hb2.size)
    clear ho3
    go_wp2_with fail
    refine (sameI_same A2 A3 n c2 c3 _ (shL xs z) w3 HI2.out HI3.out (by omega)).mono ?_
    rintro e w4 ⟨rfl, hb4⟩
    have hB4 := hB3.trans (hb4.mono hB3.size)
    have hI4 := (HI2.out.below hb4).more hb4.size
    have hv := ifull_any A A2 n n c c2 xs (shL xs z) z w4 ((hD.below hB4).more hB4.size) hI4 (by omega) (by omega)
    rw [shL_full HQ.out] at hv
    go_wp2_with fail
    refine hv.mono ?_
    rintro e w5 ⟨rfl, hb5⟩
    go_wp2
    go_ret
    exact ⟨rfl, hb1.trans ((hB4.trans (hb5.mono hB4.size)).mono hs1)⟩
  · have HQ := Lib.hid q
    clear q
    go_wp2_with fail
    refine (ish_bad A n c xs z w1 hD (by omega) HQ.out).mono ?_
    rintro e w2 ⟨A2, c2, rfl, -, -, ho2, hb2⟩
    have HO2 := Lib.hid ho2
    clear ho2
    go_wp2_with fail
    refine (ssh_bad A n c xs z w2 ((hD.below hb2).more hb2.size) (by omega) HQ.out).mono ?_
    rintro e w3 ⟨A3, c3, rfl, -, -, ho3, hb3⟩
    have HI2 := Lib.hid (show Ints w3 w3.heap.size A2 0 [] from Sl.of_own (own_below HO2.out hb3))
    have HI3 := Lib.hid (show Ints w3 w3.heap.size A3 0 [] from Sl.of_own ho3)
    have hB3 : Below w.heap.size w w3 := (hb1.trans (hb2.mono hs1)).trans (hb3.mono (hb1.trans (hb2.mono hs1)).size)
    clear ho3
    go_wp2_with fail
    refine (sameI_same A2 A3 0 c2 c3 _ [] w3 HI2.out HI3.out (by omega)).mono ?_
    rintro e w4 ⟨rfl, hb4⟩
    have hB4 := hB3.trans (hb4.mono hB3.size)
    go_wp2_with fail
    refine (sameI_same A2 A3 0 c2 c3 _ [] w4 ((HI2.out.below hb4).more hb4.size) ((HI3.out.below hb4).more hb4.size) (by omega)).mono ?_
    rintro e w5 ⟨rfl, hb5⟩
    go_wp2
    go_ret
    exact ⟨rfl, hB4.trans (hb5.mono hB4.size)⟩

/-! ### THE ROW's STEP: WRITTEN OUT: LEAVE IT -/
set_option maxRecDepth 100000 in
theorem lifted (os : Os) (started : os.Started) (H : Type) (enc : TypeId × Value → H) :
    ReturnsInHanded {} Try.checked os 11 .any (Rows.fnSharesFullSpec.pre6 enc Try.prog Try.f11 Rows.fnSharesFullRow.domain false) (Rows.fnSharesFullSpec.post enc Try.prog Try.f11 false true false false) := by
  refine returnsInHanded_of_change (C := Try.checked) own started (by kernel_rfl) Try.func11
    (ChangeSpec.witness6 (enc := enc) (C := Try.checked) false ⟨#[], #[.slice none 0 0], []⟩ 8 (by kernel_rfl) (by kernel_rfl) (by kernel_rfl) (by kernel_rfl)) ?_
  intro W base args ds gs before hval0 hW hcnd _
  have hval : ∀ (j : Nat) t v, Try.f11.params[j]? = some t → args[j]? = some v → Value.okWide Try.prog W .any base t v := hval0
  have hW' := hW
  obtain ⟨p, q, hA0, hV, rfl, hfz, hnd⟩ := hW
  have hA : DataW.TrodAll enc Try.prog W 0 (fun _ => true) true Try.f11.params.toList args.toList ds p := hA0
  rw [Try.params11] at hA hval
  obtain ⟨v0, vs0, d0, ds0, p0, q0, hargs, rfl, rfl, h0, r0⟩ := trodAll_cons hA
  obtain ⟨rfl, rfl, rfl⟩ := trodAll_nil r0
  obtain rfl : args = #[v0] := by cases args; simp_all
  obtain ⟨rfl, rfl⟩ := trodVars_none hV
  obtain ⟨a0, len0, cap0, rfl⟩ := okWide_slice Try.underlying32 (hval 0 32 v0 rfl rfl)
  have k0 := h0
  have lt0 : ∀ x ∈ p0, x.block < W.heap.size := by obtain ⟨m, hm⟩ := k0; exact DataW.trod_lt m _ _ _ hm
  obtain ⟨z0, w0⟩ : ∃ zs, IsRow .u8 W a0 len0 cap0 zs := by
    obtain ⟨fuel, hf⟩ := h0
    rcases open_ints Try.underlying32 Try.underlying5 (by kernel_rfl) hf with ⟨hcs, _⟩ | ⟨x, l, c, zs, hcs, _, hl, hm, hz, _, hcell, hwz⟩
    · simp [Value.cells] at hcs
      obtain ⟨rfl, rfl, rfl⟩ := hcs
      exact ⟨[], .inl ⟨rfl, rfl, rfl, rfl⟩⟩
    · simp [Value.cells] at hcs
      obtain ⟨rfl, rfl, rfl⟩ := hcs
      exact ⟨zs, .inr ⟨_, rfl, hl, hm, by simpa using hz, hcell, hwz⟩⟩
  clear hA0 hval0
  refine (walk a0 len0 cap0 z0 W w0).mono fun e W' ⟨he, bel⟩ => ?_
  subst he
  exact ⟨_, rfl, _, _, _, [], _, [], hW', trodAll_mk1 (shut_bool Try.underlying4 _), (trodAll_cons_mk (Below.trod laidOut (by kernel_rfl) (of_decide_eq_true (by kernel_rfl)) k0 bel lt0) trodAll_mk0), rfl, bel.frame _, fun h => by cases h⟩

theorem over : Rows.fnSharesFullRow.holds Try.pinned (OpenSpec.ofChange Rows.fnSharesFullSpec) :=
  OpenClaim.holds_of_wide 11 Try.f11 rfl rfl rfl rfl rfl rfl rfl ⟨rfl, rfl, rfl, rfl, rfl⟩ rfl rfl rfl rfl rfl (by kernel_rfl) Try.func11 (by kernel_rfl)
    (of_decide_eq_true (by kernel_rfl)) (by unfold Func.isWrapper; first | (rw [if_pos (by decide +kernel)]; kernel_rfl) | (rw [if_neg (by decide +kernel)]; exact ⟨rfl, rfl⟩))
    (fun os started H enc _ => lifted os started H enc)

/--  THE STATEMENT  -/
theorem proved : Rows.FnSharesFullSaid := over
#print axioms proved
end Go.Proofs.Ythkoafcbcnobhaa.fnSharesFull
