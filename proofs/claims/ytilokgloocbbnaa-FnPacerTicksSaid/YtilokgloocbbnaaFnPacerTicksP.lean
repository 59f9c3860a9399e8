/-
  The statement FnPacerTicks: the law returns true for every input, and what was there before the call has not turned.
  No condition beyond the given statement.
-/
import Derived.Test.YtilokgloocbbnaaRows
import Derived.WalkKit
import Derived.ProofKit
import Derived.OpenShut
import Derived.ShutString
import Derived.ChangeOld
import Derived.Below
import Derived.Test.YtilokgloocbbnaaPac
import Derived.Test.YtilokgloocbbnaaPacB
import Derived.Test.YtilokgloocbbnaaPacD
import Derived.Test.YtilokgloocbbnaaPacE
import Derived.Test.YtilokgloocbbnaaPacF
import Derived.Test.YtilokgloocbbnaaPacG
import Derived.Test.YtilokgloocbbnaaPacI
import Derived.Test.YtilokgloocbbnaaPacJ
import Derived.Test.YtilokgloocbbnaaPacK
import Derived.Test.YtilokgloocbbnaaPacL
import Derived.Test.YtilokgloocbbnaaPacM
import Derived.Test.YtilokgloocbbnaaPacN
import Derived.Test.YtilokgloocbbnaaPacO
namespace Go.Proofs.Ytilokgloocbbnaa.fnPacerTicks
open Go.ChangeShapes Go.WideShapes Go.ChangeAt Go.RowKit
open Go.ChangeMaps (open_string shut_string)
set_option linter.unusedVariables false

theorem own : ownKnob Try.prog.godebug = none := by kernel_rfl
theorem laidOut : laidOutB Try.prog = true := by kernel_rfl

/-- WHAT THE WALK IS TOLD OF A SLICE OF INTEGERS THAT CAME IN: it is nil; or it leads to a row of 'cap' cells, the numbers 'zs' (the first 'len' are its elements, the rest its spare room), each fitting its kind. -/
def IsRow (k : IntKind) (w : World) (a : Option Addr) (len cap : Nat) (zs : List Int) : Prop :=
  (a = none ∧ len = 0 ∧ cap = 0 ∧ zs = []) ∨
  ∃ x, a = some x ∧ len ≤ cap ∧ cap ≤ maxLen ∧ zs.length = cap ∧ (∀ i, i < zs.length → w.cell? (x.add i) = some (.int k (zs.getD i 0))) ∧ ∀ n ∈ zs, (Lit.int k n).wf = true


/-! ### STEP 1: THE WALK: the Go text returns true, AND WRITES NOTHING THAT WAS THERE: 'Below w.heap.size w w'' (Derived/Below.lean: '.refl', '.alloc', '.drew', '.setCell' at a new block, '.trans'). Open each 'IsRow' by 'rcases' AHEAD of 'go_enter'; part every test ahead of the walk. -/
set_option maxHeartbeats 4000000 in
set_option maxRecDepth 100000 in
theorem walk (a0 : Option Addr) (len0 cap0 : Nat) (z0 : List Int) (w : World) (w0 : IsRow .u8 w a0 len0 cap0 z0) :
    Calls Try.prog 8 #[.slice a0 len0 cap0] w fun e w' => e = .returned (.bool true) ∧ Below w.heap.size w w' := by
  obtain ⟨hb, hnc, hc⟩ := bytes_of_row w0
  have hcm := hc
  unfold maxLen at hcm
  by_cases hbig : 1048576 < len0
  · have e1 : decide (1048576 < len0) = true := by simpa using hbig
    go_enter Try.func8, Try.ntmps8
    go_wp2
    go_ret
    exact ⟨rfl, Below.refl _ _⟩
  · have e1 : decide (1048576 < len0) = false := by simpa using hbig
    go_enter Try.func8, Try.ntmps8
    go_wp2_with fail
    refine (draw_ticks a0 len0 cap0 _ hb hnc hc).mono ?_
    rintro x w1 ⟨a, b, u, rfl, hpf, hb1⟩
    obtain ⟨ea, cr, A, n, c, xs, rfl, rfl, rfl, hn12, hnc', hc', hX, hA⟩ := hpf.shape
    clear hpf hA
    have hs1 := hb1.size
    have hP := Bk.new w1 25 #[.int .i64 ea, .int .i64 cr, .slice A n c]
    have hn4 : n ≤ 1099511627776 := by omega
    have hbx : Below w1.heap.size w1 (w1.alloc (.cells #[.int .i64 ea, .int .i64 cr, .slice A n c] 25)) := (by repeat (first | exact Below.refl _ _ | assumption | refine Below.setCell ?_ (by first | omega | (simp; done) | (simp; omega)) _ | refine Below.alloc ?_ (by first | omega | (simp; done) | (simp; omega)) _ | refine Below.drew ?_ | refine Below.drewN' ?_ _ | refine Below.trans ?_ (Below.mono (by assumption) (by first | omega | (simp; done) | (simp; omega)))))
    replace hX := hX.step hbx
    have hB1 := hb1.trans (hbx.mono hs1)
    clear hbx hb1
    generalize hT : ticks ea cr xs = T at *
    have HT := Lib.hid hT
    have hit := fun w h => iticks_any ea cr A n c xs w h hn4 hnc' hc'
    have hst := fun w h => sticks_any ea cr A n c xs w h hn4 hnc' hc'
    rw [hT] at hit hst
    have HIT := Lib.hid hit
    have HST := Lib.hid hst
    clear hT hit hst
    by_cases hneg : T < 0
    · have q1 : decide (T < 0) = true := by simpa using hneg
      have q2 : (T == T) = true := by simp
      have q3 : (T != T) = false := by simp
      go_wp2_with fail
      refine (HIT.out _ hX).mono ?_
      rintro x w2 ⟨rfl, hb2⟩
      replace hX := hX.step hb2
      replace hP := hP.below hb2 (by first | omega | exact hP.lt | (simp; done) | (simp; omega))
      (try clear hP_c0); (try clear hP_f0)
      (try clear hP_c1); (try clear hP_f1)
      (try clear hP_c2); (try clear hP_f2)
      (try clear hP_lt)
      have hP_lt := hP.lt; (try simp only [World.size_alloc] at hP_lt)
      have hP_c0 := hP.cell 0; have hP_f0 := hP.frozen 0
      have hP_c1 := hP.cell 1; have hP_f1 := hP.frozen 1
      have hP_c2 := hP.cell 2; have hP_f2 := hP.frozen 2
      simp only [List.getElem?_toArray, List.getElem?_cons_zero, List.getElem?_cons_succ] at hP_c0 hP_c1 hP_c2
      have hB2 := hB1.trans (hb2.mono hB1.size)
      clear hb2
      go_wp2_with fail
      refine (HST.out _ hX).mono ?_
      rintro x w3 ⟨rfl, hb3⟩
      have hB3 := hB2.trans (hb3.mono hB2.size)
      go_wp2
      go_ret
      exact ⟨rfl, hB3⟩
    · have q1 : decide (T < 0) = false := by simpa using hneg
      have q3 : (T != T) = false := by simp
      go_wp2_with fail
      refine (HIT.out _ hX).mono ?_
      rintro x w2 ⟨rfl, hb2⟩
      replace hX := hX.step hb2
      replace hP := hP.below hb2 (by first | omega | exact hP.lt | (simp; done) | (simp; omega))
      (try clear hP_c0); (try clear hP_f0)
      (try clear hP_c1); (try clear hP_f1)
      (try clear hP_c2); (try clear hP_f2)
      (try clear hP_lt)
      have hP_lt := hP.lt; (try simp only [World.size_alloc] at hP_lt)
      have hP_c0 := hP.cell 0; have hP_f0 := hP.frozen 0
      have hP_c1 := hP.cell 1; have hP_f1 := hP.frozen 1
      have hP_c2 := hP.cell 2; have hP_f2 := hP.frozen 2
      simp only [List.getElem?_toArray, List.getElem?_cons_zero, List.getElem?_cons_succ] at hP_c0 hP_c1 hP_c2
      have hB2 := hB1.trans (hb2.mono hB1.size)
      have hs2 := hb2.size
      simp only [World.size_alloc] at hs2
      clear hb2
      go_wp2_with fail
      refine (HST.out _ hX).mono ?_
      rintro x w3 ⟨rfl, hb3⟩
      replace hX := hX.step hb3
      replace hP := hP.below hb3 (by first | omega | exact hP.lt | (simp; done) | (simp; omega))
      (try clear hP_c0); (try clear hP_f0)
      (try clear hP_c1); (try clear hP_f1)
      (try clear hP_c2); (try clear hP_f2)
      (try clear hP_lt)
      have hP_lt := hP.lt; (try simp only [World.size_alloc] at hP_lt)
      have hP_c0 := hP.cell 0; have hP_f0 := hP.frozen 0
      have hP_c1 := hP.cell 1; have hP_f1 := hP.frozen 1
      have hP_c2 := hP.cell 2; have hP_f2 := hP.frozen 2
      simp only [List.getElem?_toArray, List.getElem?_cons_zero, List.getElem?_cons_succ] at hP_c0 hP_c1 hP_c2
      have hs3 := hb3.size
      have hB3 := hB2.trans (hb3.mono hB2.size)
      clear hb3 hB1 hB2
      have hp : pOk ea cr xs := by
        apply Classical.byContradiction
        intro h
        have := HT.out
        unfold ticks at this
        rw [pB_false.2 h] at this
        simp at this
        omega
      have hTT : tcks ea 200 cr xs 0 = T := by
        have := HT.out
        unfold ticks at this
        rwa [if_pos (pB_true.2 hp)] at this
      have HP := Lib.hid hp
      have HTT := Lib.hid hTT
      have ht200 : T ≤ 200 := by
        rcases tcks_ge ea 200 cr xs 0 with h | h <;> omega
      have ht0 : 0 ≤ T := by omega
      clear hp hTT
      obtain ⟨t, rfl⟩ := Int.eq_ofNat_of_zero_le ht0
      have hX0 := Bk.new w3 25 #[.int .i64 ea, .int .i64 cr, .slice A n c]
      have hbx : Below w3.heap.size w3 (w3.alloc (.cells #[.int .i64 ea, .int .i64 cr, .slice A n c] 25)) := (by repeat (first | exact Below.refl _ _ | assumption | refine Below.setCell ?_ (by first | omega | (simp; done) | (simp; omega)) _ | refine Below.alloc ?_ (by first | omega | (simp; done) | (simp; omega)) _ | refine Below.drew ?_ | refine Below.drewN' ?_ _ | refine Below.trans ?_ (Below.mono (by assumption) (by first | omega | (simp; done) | (simp; omega)))))
      have hB4 := hB3.trans (hbx.mono hB3.size)
      have HF0 := Lib.hid (show Far (w3.alloc (.cells #[.int .i64 ea, .int .i64 cr, .slice A n c] 25)) w3.heap.size A n c xs from ⟨hX.step hbx, hnc', hc', fun hn0 b o hA => by
        obtain ⟨b', off', e, hb', -⟩ := hX.addr hn0
        rw [e] at hA
        injection hA with hA
        injection hA with h1 h2
        omega⟩)
      clear hX
      go_wp2_with fail
      (try clear hP_c0); (try clear hP_f0)
      (try clear hP_c1); (try clear hP_f1)
      (try clear hP_c2); (try clear hP_f2)
      (try clear hP_lt)
      clear hP hbx
      generalize hgx : w3.heap.size = gx at *
      have hwx : w.heap.size ≤ gx := by omega
      go_loopw [7] (fun i wr => ∃ (k : Nat) (cr' : Int) (xs' : List Wt) (A' : Option Addr) (m c' : Nat), k ≤ t ∧ i = .int .i64 k ∧ Bk wr gx 25 #[.int .i64 ea, .int .i64 cr', .slice A' m c'] ∧ Far wr gx A' m c' xs' ∧ Hid (pOk ea cr' xs') ∧ Hid (tcks ea (200 - k) cr' xs' k = (t : Int)) ∧ Below w.heap.size w wr) (fun i _ => t - (intOf i).toNat)
      case atStart => exact ⟨0, cr, xs, A, n, c, by omega, rfl, hX0, HF0.out, HP, HTT, hB4⟩
      case round =>
        obtain ⟨k, cr', xs', A', m, c', hk, rfl, hX, ⟨f1, f2, f3, f4⟩, HP', HL, hB⟩ := hrel
        clear hX0 hB4 hB3
        have hm12 : m ≤ 12 := by have := HP'.out.2.2.2.2.1; rw [f1.len] at this; exact this
        (try clear hX_c0); (try clear hX_f0)
        (try clear hX_c1); (try clear hX_f1)
        (try clear hX_c2); (try clear hX_f2)
        (try clear hX_lt)
        have hX_lt := hX.lt; (try simp only [World.size_alloc] at hX_lt)
        have hX_c0 := hX.cell 0; have hX_f0 := hX.frozen 0
        have hX_c1 := hX.cell 1; have hX_f1 := hX.frozen 1
        have hX_c2 := hX.cell 2; have hX_f2 := hX.frozen 2
        simp only [List.getElem?_toArray, List.getElem?_cons_zero, List.getElem?_cons_succ] at hX_c0 hX_c1 hX_c2
        have hsame := tcks_same ea (200 - k) cr' xs' k
        rw [HL.out] at hsame
        by_cases hlt : k < t
        · have hne : xs' ≠ [] := fun h => by have := hsame.2 h; omega
          have hm0 : m ≠ 0 := fun h => by subst h; exact hne (List.eq_nil_of_length_eq_zero f1.len)
          have e0 : decide (k < t) = true := by simpa using hlt
          have e1 : ((m : Int) == 0) = false := beq_eq_false_iff_ne.2 (by omega)
          have HN := Lib.hid (show tcks ea (200 - (k + 1)) (nx ea cr' xs') (rs ea cr' xs') (k + 1) = (t : Int) by
            have h1 := HL.out
            rw [show 200 - k = (200 - (k + 1)) + 1 by omega, tcks_succ _ _ _ _ hne] at h1
            exact h1)
          have HPN := Lib.hid (pOk_next HP'.out)
          have F1 := Lib.hid f1
          clear hne hsame f1 f2 f3 f4
          have hbs := hB.size
          have hXl := hX_lt
          go_wp2_with fail
          refine (itick_good ea cr' A' m c' xs' wr F1.out HP'.out).mono ?_
          rintro y w4 ⟨v, u, rfl, ht⟩
          obtain ⟨A2, c2, rfl, -⟩ := own_shape ht.1
          have hbt := ht.2.2.2
          replace hX := hX.below hbt (by first | omega | exact hX.lt | (simp; done) | (simp; omega))
          (try clear hX_c0); (try clear hX_f0)
          (try clear hX_c1); (try clear hX_f1)
          (try clear hX_c2); (try clear hX_f2)
          (try clear hX_lt)
          have hX_lt := hX.lt; (try simp only [World.size_alloc] at hX_lt)
          have hX_c0 := hX.cell 0; have hX_f0 := hX.frozen 0
          have hX_c1 := hX.cell 1; have hX_f1 := hX.frozen 1
          have hX_c2 := hX.cell 2; have hX_f2 := hX.frozen 2
          simp only [List.getElem?_toArray, List.getElem?_cons_zero, List.getElem?_cons_succ] at hX_c0 hX_c1 hX_c2
          have hB2 := hB.trans (hbt.mono hbs)
          have hOn := ((((Only.refl gx w4).setCell (p := ⟨gx, 0, none⟩) (.inl rfl) (.int .i64 ea)).setCell (p := ⟨gx, 1, none⟩) (.inl rfl) (.int .i64 (nx ea cr' xs'))).setCell (p := ⟨gx, 2, none⟩) (.inl rfl) (.slice A2 (rs ea cr' xs').length c2)).alloc (.cells #[.int .i64 ea, .int .i64 (nx ea cr' xs'), .slice A2 (rs ea cr' xs').length c2] 25)
          have hFin := (((hX.set_ 0 (.int .i64 ea)).set_ 1 (.int .i64 (nx ea cr' xs'))).set_ 2 (.slice A2 (rs ea cr' xs').length c2)).alloc (.cells #[.int .i64 ea, .int .i64 (nx ea cr' xs'), .slice A2 (rs ea cr' xs').length c2] 25)
          simp only [List.setIfInBounds_toArray, List.set_cons_zero, List.set_cons_succ] at hFin
          obtain ⟨A3, c3, hv3, hfar⟩ := Far.own ht.1 hXl hOn
          injection hv3 with e3 e4 e5
          subst e3 e5
          have HFAR := Lib.hid hfar
          have HFIN := Lib.hid hFin
          have HBF := Lib.hid (hB2.trans (hOn.below hwx hB2.size))
          clear ht hbt hOn hFin hfar e4
          have hY := Bk.new w4 25 #[.int .i64 ea, .int .i64 (nx ea cr' xs'), .slice A2 (rs ea cr' xs').length c2]
          (try clear hY_c0); (try clear hY_f0)
          (try clear hY_c1); (try clear hY_f1)
          (try clear hY_c2); (try clear hY_f2)
          (try clear hY_lt)
          have hY_lt := hY.lt; (try simp only [World.size_alloc] at hY_lt)
          have hY_c0 := hY.cell 0; have hY_f0 := hY.frozen 0
          have hY_c1 := hY.cell 1; have hY_f1 := hY.frozen 1
          have hY_c2 := hY.cell 2; have hY_f2 := hY.frozen 2
          simp only [List.getElem?_toArray, List.getElem?_cons_zero, List.getElem?_cons_succ] at hY_c0 hY_c1 hY_c2
          go_wp2
          go_roundw
          case rel => exact ⟨k + 1, _, _, _, _, _, by omega, by go_num, HFIN.out, HFAR.out, HPN, HN, HBF.out⟩
          case measure => simp [intOf]; omega
        · have hkt : k = t := by omega
          subst hkt
          have hx : xs' = [] := hsame.1 rfl
          subst hx
          have hm0 : m = 0 := by have := f1.len; simpa using this.symm
          subst hm0
          clear hsame f1 f2 f3 f4
          go_wp2
          go_ret
          exact ⟨rfl, hB⟩

/-! ### THE ROW's STEP: WRITTEN OUT: LEAVE IT -/
set_option maxRecDepth 100000 in
theorem lifted (os : Os) (started : os.Started) (H : Type) (enc : TypeId × Value → H) :
    ReturnsInHanded {} Try.checked os 8 .any (Rows.fnPacerTicksSpec.pre6 enc Try.prog Try.f8 Rows.fnPacerTicksRow.domain false) (Rows.fnPacerTicksSpec.post enc Try.prog Try.f8 false true false false) := by
  refine returnsInHanded_of_change (C := Try.checked) own started (by kernel_rfl) Try.func8
    (ChangeSpec.witness6 (enc := enc) (C := Try.checked) false ⟨#[], #[.slice none 0 0], []⟩ 8 (by kernel_rfl) (by kernel_rfl) (by kernel_rfl) (by kernel_rfl)) ?_
  intro W base args ds gs before hval0 hW hcnd _
  have hval : ∀ (j : Nat) t v, Try.f8.params[j]? = some t → args[j]? = some v → Value.okWide Try.prog W .any base t v := hval0
  have hW' := hW
  obtain ⟨p, q, hA0, hV, rfl, hfz, hnd⟩ := hW
  have hA : DataW.TrodAll enc Try.prog W 0 (fun _ => true) true Try.f8.params.toList args.toList ds p := hA0
  rw [Try.params8] at hA hval
  obtain ⟨v0, vs0, d0, ds0, p0, q0, hargs, rfl, rfl, h0, r0⟩ := trodAll_cons hA
  obtain ⟨rfl, rfl, rfl⟩ := trodAll_nil r0
  obtain rfl : args = #[v0] := by cases args; simp_all
  obtain ⟨rfl, rfl⟩ := trodVars_none hV
  obtain ⟨a0, len0, cap0, rfl⟩ := okWide_slice Try.underlying22 (hval 0 22 v0 rfl rfl)
  have k0 := h0
  have lt0 : ∀ x ∈ p0, x.block < W.heap.size := by obtain ⟨m, hm⟩ := k0; exact DataW.trod_lt m _ _ _ hm
  obtain ⟨z0, w0⟩ : ∃ zs, IsRow .u8 W a0 len0 cap0 zs := by
    obtain ⟨fuel, hf⟩ := h0
    rcases open_ints Try.underlying22 Try.underlying5 (by kernel_rfl) hf with ⟨hcs, _⟩ | ⟨x, l, c, zs, hcs, _, hl, hm, hz, _, hcell, hwz⟩
    · simp [Value.cells] at hcs
      obtain ⟨rfl, rfl, rfl⟩ := hcs
      exact ⟨[], .inl ⟨rfl, rfl, rfl, rfl⟩⟩
    · simp [Value.cells] at hcs
      obtain ⟨rfl, rfl, rfl⟩ := hcs
      exact ⟨zs, .inr ⟨_, rfl, hl, hm, by simpa using hz, hcell, hwz⟩⟩
  clear hA0 hval0
  refine (walk a0 len0 cap0 z0 W w0).mono fun e W' ⟨he, bel⟩ => ?_
  subst he
  exact ⟨_, rfl, _, _, _, [], _, [], hW', trodAll_mk1 (shut_bool Try.underlying4 _), (trodAll_cons_mk (Below.trod laidOut (by kernel_rfl) (of_decide_eq_true (by kernel_rfl)) k0 bel lt0) trodAll_mk0), rfl, bel.frame _, fun h => by cases h⟩

theorem over : Rows.fnPacerTicksRow.holds Try.pinned (OpenSpec.ofChange Rows.fnPacerTicksSpec) :=
  OpenClaim.holds_of_wide 8 Try.f8 rfl rfl rfl rfl rfl rfl rfl ⟨rfl, rfl, rfl, rfl, rfl⟩ rfl rfl rfl rfl rfl (by kernel_rfl) Try.func8 (by kernel_rfl)
    (of_decide_eq_true (by kernel_rfl)) (by unfold Func.isWrapper; first | (rw [if_pos (by decide +kernel)]; kernel_rfl) | (rw [if_neg (by decide +kernel)]; exact ⟨rfl, rfl⟩))
    (fun os started H enc _ => lifted os started H enc)

/--  THE STATEMENT  -/
theorem proved : Rows.FnPacerTicksSaid := over
#print axioms proved
end Go.Proofs.Ytilokgloocbbnaa.fnPacerTicks
