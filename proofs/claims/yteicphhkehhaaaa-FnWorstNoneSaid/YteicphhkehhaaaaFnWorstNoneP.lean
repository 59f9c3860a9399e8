/-
  The statement FnWorstNone: the law returns true for every input, and what was there before the call has not turned.
  No condition beyond the given statement.
-/
import Derived.Test.YteicphhkehhaaaaRows
import Derived.WalkKit
import Derived.ProofKit
import Derived.OpenShut
import Derived.ShutString
import Derived.ChangeOld
import Derived.Below
import Derived.Test.YteicphhkehhaaaaWorst
namespace Go.Proofs.Yteicphhkehhaaaa.fnWorstNone
open Go.ChangeShapes Go.WideShapes Go.ChangeAt Go.RowKit
open Go.ChangeMaps (open_string shut_string)
set_option linter.unusedVariables false

theorem own : ownKnob Try.prog.godebug = none := by kernel_rfl
theorem laidOut : laidOutB Try.prog = true := by kernel_rfl

/-- WHAT THE WALK IS TOLD OF A SLICE OF INTEGERS THAT CAME IN: it is nil; or it leads to a row of 'cap' cells, the numbers 'zs' (the first 'len' are its elements, the rest its spare room), each fitting its kind. -/
def IsRow (k : IntKind) (w : World) (a : Option Addr) (len cap : Nat) (zs : List Int) : Prop :=
  (a = none ∧ len = 0 ∧ cap = 0 ∧ zs = []) ∨
  ∃ x, a = some x ∧ len ≤ cap ∧ cap ≤ maxLen ∧ zs.length = cap ∧ (∀ i, i < zs.length → w.cell? (x.add i) = some (.int k (zs.getD i 0))) ∧ ∀ n ∈ zs, (Lit.int k n).wf = true


/-! ### STEP 1: THE WALK: the Go text returns true, AND WRITES NOTHING THAT WAS THERE: 'Below w.heap.size w w'' (Derived/Below.lean: '.refl', '.alloc', '.drew', '.setCell' at a new block, '.trans'). Open each 'IsRow' by 'rcases' AHEAD of 'go_enter'; part every test ahead of the walk. -/
set_option maxHeartbeats 4000000 in
set_option maxRecDepth 100000 in
theorem walk (a0 : Option Addr) (len0 cap0 : Nat) (z0 : List Int) (w : World) (w0 : IsRow .u8 w a0 len0 cap0 z0) :
    Calls Try.prog 12 #[.slice a0 len0 cap0] w fun e w' => e = .returned (.bool true) ∧ Below w.heap.size w w' := by
  obtain ⟨hb, hnc, hc⟩ := bytes_of_row w0
  have hcm := hc
  unfold maxLen at hcm
  by_cases hbig : 1048576 < len0
  · have e1 : decide (1048576 < len0) = true := by simpa using hbig
    go_enter Try.func12, Try.ntmps12
    go_wp2
    go_ret
    exact ⟨rfl, Below.refl _ _⟩
  · have e1 : decide (1048576 < len0) = false := by simpa using hbig
    go_enter Try.func12, Try.ntmps12
    go_wp2_with fail
    refine (draw_worst a0 len0 cap0 _ hb hnc hc).mono ?_
    rintro e w1 ⟨A1, n, c, zs, hz8, rfl, hnc1, hc1, hi1, hb1⟩
    have hlz := hi1.len
    have hn8 : n ≤ 8 := by
      have : zs.length ≤ 8 := hz8
      omega
    have HZ := Lib.hid hlz
    clear hlz hz8
    unfold maxLen at hc1
    go_wp2_with fail
    refine (impl_worst A1 n c zs _ hi1 (by omega)).mono ?_
    rintro e w2 ⟨r, hr, rfl, hb2⟩
    have hb12 : Below w.heap.size w w2 := hb1.trans (hb2.mono hb1.size)
    have hi2 := (hi1.below hb2).more hb2.size
    go_wp2_with fail
    refine (spec_worst A1 n c _ zs _ hi2 (by omega)).mono ?_
    rintro e w3 ⟨r', m, hr', rfl, rfl⟩
    obtain rfl := worst_eq hr hr'
    have HR := Lib.hid hr
    clear hr hr'
    have hcell := fun (hn0 : 0 < n) => hi2.at_ hn0
    go_wp2_with fail
    go_loopg [6, 7] n (fun gk al i wr => ∃ (k m' : Nat) (b : Bool), gk + k = n ∧ i = .int .i64 k ∧ al = .bool b ∧ Hid (b = true ↔ okTo zs k) ∧ wr = w2.drewN m')
    case atStart => exact ⟨0, m, true, by omega, rfl, rfl, ⟨fun _ j hj => absurd hj (by omega), fun _ => rfl⟩, rfl⟩
    case round =>
      obtain ⟨k, m', b, hkn, rfl, rfl, hbk, rfl⟩ := hrel
      by_cases hlt : k < n
      · obtain ⟨bb, off, rfl, hbb, hcell'⟩ := hcell (by omega)
        have hck := hcell' k hlt
        clear hcell hcell'
        cases b
        · have hno := Lib.hid (show ¬ okTo zs (k + 1) from fun hh => by have := hbk.out.2 (okTo_le hh (by omega)); cases this)
          go_wp2_with fail
          go_roundg (gk - 1)
          case measure => omega
          case rel => exact ⟨k + 1, _, false, by omega, by go_num, rfl, ⟨(fun h => by cases h), fun h => (hno.out h).elim⟩, rfl⟩
        · by_cases hr0 : 0 ≤ zs[k]?.getD 0
          · have d0 : decide (0 ≤ zs[k]?.getD 0) = true := by simpa using hr0
            by_cases hr1 : zs[k]?.getD 0 ≤ 100
            · have d1 : decide (zs[k]?.getD 0 ≤ 100) = true := by simpa using hr1
              have hyes := Lib.hid (okTo_succ (hbk.out.1 rfl) hr0 hr1)
              go_wp2_with fail
              go_roundg (gk - 1)
              case measure => omega
              case rel => exact ⟨k + 1, _, true, by omega, by go_num, rfl, ⟨fun _ => hyes.out, fun _ => rfl⟩, rfl⟩
            · have d1 : decide (zs[k]?.getD 0 ≤ 100) = false := by simpa using hr1
              go_wp2_with fail
              go_roundg (gk - 1)
              case measure => omega
              case rel => exact ⟨k + 1, _, false, by omega, by go_num, rfl, ⟨(fun h => by cases h), fun h => by have := (h k (by omega)).2; omega⟩, rfl⟩
          · have d0 : decide (0 ≤ zs[k]?.getD 0) = false := by simpa using hr0
            go_wp2_with fail
            go_roundg (gk - 1)
            case measure => omega
            case rel => exact ⟨k + 1, _, false, by omega, by go_num, rfl, ⟨(fun h => by cases h), fun h => by have := (h k (by omega)).1; omega⟩, rfl⟩
      · have hkn' : k = n := by omega
        subst hkn'
        clear hcell
        have hend : (r == -1) = (!b || ((k : Int) == 0)) := by
          have hw := wst_range zs k
          rcases HR.out with ⟨ho, hr⟩ | ⟨ho, hr⟩
          · rw [HZ.out] at ho hr
            have hb1 := hbk.out.2 ho
            subst hb1
            by_cases h0 : k = 0
            · subst h0
              have : r = -1 := hr
              subst this
              rfl
            · have h1 : (r == -1) = false := by simp; omega
              have h2 : ((k : Int) == 0) = false := by simp; omega
              rw [h1, h2]
              rfl
          · rw [HZ.out] at ho
            have hb0 : b = false := by
              cases b
              · rfl
              · exact (ho (hbk.out.1 rfl)).elim
            subst hb0 hr
            rfl
        have HE := Lib.hid hend
        clear hend
        cases b
        · have h1 : (r == -1) = true := by rw [HE.out]; rfl
          go_wp2
          go_ret
          exact ⟨rfl, Below.drewN' hb12 _⟩
        · by_cases h0 : k = 0
          · have h2 : ((k : Int) == 0) = true := by simp; omega
            have h1 : (r == -1) = true := by rw [HE.out, h2]; rfl
            go_wp2
            go_ret
            exact ⟨rfl, Below.drewN' hb12 _⟩
          · have h2 : ((k : Int) == 0) = false := by simp; omega
            have h1 : (r == -1) = false := by rw [HE.out, h2]; rfl
            go_wp2
            go_ret
            exact ⟨rfl, Below.drewN' hb12 _⟩

/-! ### THE ROW's STEP: WRITTEN OUT: LEAVE IT -/
set_option maxRecDepth 100000 in
theorem lifted (os : Os) (started : os.Started) (H : Type) (enc : TypeId × Value → H) :
    ReturnsInHanded {} Try.checked os 12 .any (Rows.fnWorstNoneSpec.pre6 enc Try.prog Try.f12 Rows.fnWorstNoneRow.domain false) (Rows.fnWorstNoneSpec.post enc Try.prog Try.f12 false true false false) := by
  refine returnsInHanded_of_change (C := Try.checked) own started (by kernel_rfl) Try.func12
    (ChangeSpec.witness6 (enc := enc) (C := Try.checked) false ⟨#[], #[.slice none 0 0], []⟩ 8 (by kernel_rfl) (by kernel_rfl) (by kernel_rfl) (by kernel_rfl)) ?_
  intro W base args ds gs before hval0 hW hcnd _
  have hval : ∀ (j : Nat) t v, Try.f12.params[j]? = some t → args[j]? = some v → Value.okWide Try.prog W .any base t v := hval0
  have hW' := hW
  obtain ⟨p, q, hA0, hV, rfl, hfz, hnd⟩ := hW
  have hA : DataW.TrodAll enc Try.prog W 0 (fun _ => true) true Try.f12.params.toList args.toList ds p := hA0
  rw [Try.params12] at hA hval
  obtain ⟨v0, vs0, d0, ds0, p0, q0, hargs, rfl, rfl, h0, r0⟩ := trodAll_cons hA
  obtain ⟨rfl, rfl, rfl⟩ := trodAll_nil r0
  obtain rfl : args = #[v0] := by cases args; simp_all
  obtain ⟨rfl, rfl⟩ := trodVars_none hV
  obtain ⟨a0, len0, cap0, rfl⟩ := okWide_slice Try.underlying26 (hval 0 26 v0 rfl rfl)
  have k0 := h0
  have lt0 : ∀ x ∈ p0, x.block < W.heap.size := by obtain ⟨m, hm⟩ := k0; exact DataW.trod_lt m _ _ _ hm
  obtain ⟨z0, w0⟩ : ∃ zs, IsRow .u8 W a0 len0 cap0 zs := by
    obtain ⟨fuel, hf⟩ := h0
    rcases open_ints Try.underlying26 Try.underlying5 (by kernel_rfl) hf with ⟨hcs, _⟩ | ⟨x, l, c, zs, hcs, _, hl, hm, hz, _, hcell, hwz⟩
    · simp [Value.cells] at hcs
      obtain ⟨rfl, rfl, rfl⟩ := hcs
      exact ⟨[], .inl ⟨rfl, rfl, rfl, rfl⟩⟩
    · simp [Value.cells] at hcs
      obtain ⟨rfl, rfl, rfl⟩ := hcs
      exact ⟨zs, .inr ⟨_, rfl, hl, hm, by simpa using hz, hcell, hwz⟩⟩
  clear hA0 hval0
  refine (walk a0 len0 cap0 z0 W w0).mono fun e W' ⟨he, bel⟩ => ?_
  subst he
  exact ⟨_, rfl, _, _, _, [], _, [], hW', trodAll_mk1 (shut_bool Try.underlying4 _), (trodAll_cons_mk (Below.trod laidOut (by kernel_rfl) (of_decide_eq_true (by kernel_rfl)) k0 bel lt0) trodAll_mk0), rfl, bel.frame _, fun h => by cases h⟩

theorem over : Rows.fnWorstNoneRow.holds Try.pinned (OpenSpec.ofChange Rows.fnWorstNoneSpec) :=
  OpenClaim.holds_of_wide 12 Try.f12 rfl rfl rfl rfl rfl rfl rfl ⟨rfl, rfl, rfl, rfl, rfl⟩ rfl rfl rfl rfl rfl (by kernel_rfl) Try.func12 (by kernel_rfl)
    (of_decide_eq_true (by kernel_rfl)) (by unfold Func.isWrapper; first | (rw [if_pos (by decide +kernel)]; kernel_rfl) | (rw [if_neg (by decide +kernel)]; exact ⟨rfl, rfl⟩))
    (fun os started H enc _ => lifted os started H enc)

/--  THE STATEMENT  -/
theorem proved : Rows.FnWorstNoneSaid := over
#print axioms proved
end Go.Proofs.Yteicphhkehhaaaa.fnWorstNone
