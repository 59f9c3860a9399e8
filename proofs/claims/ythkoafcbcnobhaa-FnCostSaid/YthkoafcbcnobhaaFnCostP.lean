/-
  The statement FnCost: the law returns true for every input, and what was there before the call has not turned.
  No condition beyond the given statement.
-/
import Derived.Test.YthkoafcbcnobhaaRows
import Derived.WalkKit
import Derived.ProofKit
import Derived.OpenShut
import Derived.ShutString
import Derived.ChangeOld
import Derived.Below
import Derived.Test.YthkoafcbcnobhaaDrwD
import Derived.Test.YthkoafcbcnobhaaShL
namespace Go.Proofs.Ythkoafcbcnobhaa.fnCost
open Go.ChangeShapes Go.WideShapes Go.ChangeAt Go.RowKit
open Go.ChangeMaps (open_string shut_string)
set_option linter.unusedVariables false

theorem own : ownKnob Try.prog.godebug = none := by kernel_rfl
theorem laidOut : laidOutB Try.prog = true := by kernel_rfl

/-- WHAT THE WALK IS TOLD OF A SLICE OF INTEGERS THAT CAME IN: it is nil; or it leads to a row of 'cap' cells, the numbers 'zs' (the first 'len' are its elements, the rest its spare room), each fitting its kind. -/
def IsRow (k : IntKind) (w : World) (a : Option Addr) (len cap : Nat) (zs : List Int) : Prop :=
  (a = none ∧ len = 0 ∧ cap = 0 ∧ zs = []) ∨
  ∃ x, a = some x ∧ len ≤ cap ∧ cap ≤ maxLen ∧ zs.length = cap ∧ (∀ i, i < zs.length → w.cell? (x.add i) = some (.int k (zs.getD i 0))) ∧ ∀ n ∈ zs, (Lit.int k n).wf = true


/-! ### STEP 1: THE WALK: the Go text returns true, AND WRITES NOTHING THAT WAS THERE: 'Below w.heap.size w w'' (Derived/Below.lean: '.refl', '.alloc', '.drew', '.setCell' at a new block, '.trans'). Open each 'IsRow' by 'rcases' AHEAD of 'go_enter'; part every test ahead of the walk. -/
set_option maxHeartbeats 4000000 in
set_option maxRecDepth 100000 in
theorem walk (a0 : Option Addr) (len0 cap0 : Nat) (z0 : List Int) (w : World) (w0 : IsRow .u8 w a0 len0 cap0 z0) :
    Calls Try.prog 4 #[.slice a0 len0 cap0] w fun e w' => e = .returned (.bool true) ∧ Below w.heap.size w w' := by
  obtain ⟨hb, hnc, hc⟩ := bytes_of_row w0
  have hcm := hc
  unfold maxLen at hcm
  by_cases hbig : 1048576 < len0
  · have e1 : decide (1048576 < len0) = true := by simpa using hbig
    go_enter Try.func4, Try.ntmps4
    go_wp2
    go_ret
    exact ⟨rfl, Below.refl _ _⟩
  have e1 : decide (1048576 < len0) = false := by simpa using hbig
  go_enter Try.func4, Try.ntmps4
  go_wp2_with fail
  refine (draw_cost a0 len0 cap0 _ hb hnc hc).mono ?_
  rintro e w1 ⟨v, u, xs, ls,  rfl, hx7, hl7, hown1, hown2,  hb1⟩
  obtain ⟨A, c, rfl, hnc1, hcm1, hD⟩ := own_shape hown1
  obtain ⟨A1, c1, rfl, hnc2, hcm2, hI⟩ := own_shape hown2
  have hs1 := hb1.size
  replace hD : Dms w1 w1.heap.size A xs.length xs := hD
  replace hI : Ints w1 w1.heap.size A1 ls.length ls := hI
  obtain ⟨n, HL⟩ : ∃ n, xs.length = n := ⟨_, rfl⟩
  obtain ⟨m, HM⟩ : ∃ m, ls.length = m := ⟨_, rfl⟩
  rw [HL] at hD hx7 hnc1
  rw [HM] at hI hl7 hnc2
  rw [HL, HM]
  replace HL := Lib.hid HL
  replace HM := Lib.hid HM
  have hic := fun (w' : World) (hw : Below w1.heap.size w1 w') => icostS_any A A1 n m c c1 xs ls w' ((hD.below hw).more hw.size) ((hI.below hw).more hw.size) (by omega) (by omega)
  have hsc := fun (w' : World) (hw : Below w1.heap.size w1 w') => scost_any A A1 n m c c1 xs ls w' ((hD.below hw).more hw.size) ((hI.below hw).more hw.size) (by omega) (by omega)
  have hB1 : Below w1.heap.size w1 w1 := Below.refl _ _
  by_cases q : shOk xs ls
  · have hnm : n = m := by have := q.2.1; rw [HL.out, HM.out] at this; exact this
    subst hnm
    obtain ⟨s, hs⟩ : ∃ s, sumTo xs ls n = s := ⟨_, rfl⟩
    have hcs : costI xs ls = s := by rw [costI_true q, HM.out, hs]
    have hsb := sum_bd6 q.1 ls (k := n) (by rw [HL.out]; exact Nat.le_refl _)
    rw [hs] at hsb
    rw [hcs] at hic hsc
    have HIC := Lib.hid hic
    have HSC := Lib.hid hsc
    have HQ := Lib.hid q
    have HS := Lib.hid hs
    have q1 : (s != s) = false := by simp
    have q2 : decide (s < 0) = false := by simp; omega
    clear hic hsc q hs hcs hown1 hown2
    go_wp2_with fail
    refine (HIC.out _ hB1).mono ?_
    rintro e w2 ⟨rfl, hbx⟩
    have hB2 := hB1.trans (hbx.mono hB1.size)
    clear hbx
    go_wp2_with fail
    refine (HSC.out _ hB2).mono ?_
    rintro e w3 ⟨rfl, hbx⟩
    have hB3 := hB2.trans (hbx.mono hB2.size)
    clear hbx
    go_wp2
    go_loopw [7, 8] (fun osl i wr => ∃ (k : Nat) (o : Int), k ≤ n ∧ i = .int .i64 k ∧ osl = .int .i64 o ∧ Hid (sumTo xs ls k = o) ∧ Below w1.heap.size w1 wr) (fun _ i _ => n - (intOf i).toNat)
    case atStart => exact ⟨0, 0, by omega, rfl, rfl, rfl, hB3⟩
    case round =>
      clear hB3 hB2
      obtain ⟨k, o, hk, rfl, rfl, hok, hB⟩ := hrel
      by_cases hlt : k < n
      · have e3 : decide (k < n) = true := by simpa using hlt
        obtain ⟨b, off, rfl, hb', hcell⟩ := hD.addr (by omega)
        obtain ⟨b', off', rfl, hb'', -⟩ := hI.at_ (by omega)
        obtain ⟨x, hx⟩ : ∃ x, xs[k]? = some x := ⟨_, List.getElem?_eq_getElem (by rw [HL.out]; exact hlt)⟩
        have hxk : dOk (dX xs k) := by rw [dX_of hx]; exact lOk_at HQ.out.1 hx
        have hyk := HQ.out.2.2 k (by rw [HM.out]; exact hlt)
        have h1 := Dms.one hD hlt
        have h2 := Ints.one hI hlt
        have hone : costI [dX xs k] [lX ls k] = cst (dX xs k) (lX ls k) := costI_one hxk hyk.1 hyk.2
        have hcb := cst_bd hxk (lX ls k)
        have hob := sum_bd6 HQ.out.1 ls (k := k) (by rw [HL.out]; omega)
        rw [hok.out] at hob
        have hnx := Lib.hid (sumTo_succ hok.out hx rfl (show cst x (lX ls k) = cst (dX xs k) (lX ls k) by rw [dX_of hx]))
        have hv := fun (w' : World) (hw : Below w1.heap.size w1 w') => icostS_any (some ⟨b, off + k * 4, none⟩) (some ⟨b', off' + k, none⟩) 1 1 (c - k) (c1 - k) [dX xs k] [lX ls k] w' ((h1.below hw).more hw.size) ((h2.below hw).more hw.size) (by omega) (by omega)
        rw [hone] at hv
        generalize cst (dX xs k) (lX ls k) = t at *
        have HV := Lib.hid hv
        have hbs := hB.size
        have f0 : (0 : Int) ≤ k := by omega
        have f1 : (k : Int) ≤ (k : Int) + 1 := by omega
        have f2 : (k : Int) + 1 ≤ c := by omega
        have f3 : (k : Int) + 1 ≤ c1 := by omega
        have f4 : ¬ c = k := by omega
        have f5 : ¬ c1 = k := by omega
        clear hcell hx hxk hyk h1 h2 hone hv
        go_wp2_with fail
        refine wp_region_below (by kernel_rfl) (by kernel_rfl) ?_
        repeat (any_goals (first | go_big_quiet_step (first | (go_at_call 17; exact BW.calls (Nat.le_refl _) _ (HV.out _ (hB.trans (Below.mono (Subtype.property _) hbs))))) | quiet_step (first | (go_at_call 17; exact BW.calls (Nat.le_refl _) _ (HV.out _ (hB.trans (Below.mono (Subtype.property _) hbs)))))))
        refine wpQuiet_nil ?_
        intro _ hw'
        obtain ⟨xw, hw''⟩ := hw'
        subst hw''
        have hbw := xw.2
        generalize xw.1 = ww at hbw ⊢
        clear xw
        obtain ⟨kw, fw⟩ := bcell hbw
        have sw := hbw.size
        have hB5 := hB.trans (hbw.mono hbs)
        go_wp2
        go_roundw
        case rel => exact ⟨k + 1, _, by omega, by go_num, rfl, hnx.out, hB5⟩
        case measure => simp [intOf]; omega
      · have hkn : k = n := by omega
        subst hkn
        have ho : o = s := by rw [← hok.out, HS.out]
        subst ho
        go_wp2
        go_ret
        exact ⟨rfl, hb1.trans (hB.mono hs1)⟩
  · rw [costI_false q] at hic hsc
    have HIC := Lib.hid hic
    have HSC := Lib.hid hsc
    clear hic hsc hown1 hown2
    go_wp2_with fail
    refine (HIC.out _ hB1).mono ?_
    rintro e w2 ⟨rfl, hbx⟩
    have hB2 := hB1.trans (hbx.mono hB1.size)
    clear hbx
    go_wp2_with fail
    refine (HSC.out _ hB2).mono ?_
    rintro e w3 ⟨rfl, hbx⟩
    have hB3 := hB2.trans (hbx.mono hB2.size)
    clear hbx
    go_wp2
    go_ret
    exact ⟨rfl, hb1.trans (hB3.mono hs1)⟩

/-! ### THE ROW's STEP: WRITTEN OUT: LEAVE IT -/
set_option maxRecDepth 100000 in
theorem lifted (os : Os) (started : os.Started) (H : Type) (enc : TypeId × Value → H) :
    ReturnsInHanded {} Try.checked os 4 .any (Rows.fnCostSpec.pre6 enc Try.prog Try.f4 Rows.fnCostRow.domain false) (Rows.fnCostSpec.post enc Try.prog Try.f4 false true false false) := by
  refine returnsInHanded_of_change (C := Try.checked) own started (by kernel_rfl) Try.func4
    (ChangeSpec.witness6 (enc := enc) (C := Try.checked) false ⟨#[], #[.slice none 0 0], []⟩ 8 (by kernel_rfl) (by kernel_rfl) (by kernel_rfl) (by kernel_rfl)) ?_
  intro W base args ds gs before hval0 hW hcnd _
  have hval : ∀ (j : Nat) t v, Try.f4.params[j]? = some t → args[j]? = some v → Value.okWide Try.prog W .any base t v := hval0
  have hW' := hW
  obtain ⟨p, q, hA0, hV, rfl, hfz, hnd⟩ := hW
  have hA : DataW.TrodAll enc Try.prog W 0 (fun _ => true) true Try.f4.params.toList args.toList ds p := hA0
  rw [Try.params4] at hA hval
  obtain ⟨v0, vs0, d0, ds0, p0, q0, hargs, rfl, rfl, h0, r0⟩ := trodAll_cons hA
  obtain ⟨rfl, rfl, rfl⟩ := trodAll_nil r0
  obtain rfl : args = #[v0] := by cases args; simp_all
  obtain ⟨rfl, rfl⟩ := trodVars_none hV
  obtain ⟨a0, len0, cap0, rfl⟩ := okWide_slice Try.underlying32 (hval 0 32 v0 rfl rfl)
  have k0 := h0
  have lt0 : ∀ x ∈ p0, x.block < W.heap.size := by obtain ⟨m, hm⟩ := k0; exact DataW.trod_lt m _ _ _ hm
  obtain ⟨z0, w0⟩ : ∃ zs, IsRow .u8 W a0 len0 cap0 zs := by
    obtain ⟨fuel, hf⟩ := h0
    rcases open_ints Try.underlying32 Try.underlying5 (by kernel_rfl) hf with ⟨hcs, _⟩ | ⟨x, l, c, zs, hcs, _, hl, hm, hz, _, hcell, hwz⟩
    · simp [Value.cells] at hcs
      obtain ⟨rfl, rfl, rfl⟩ := hcs
      exact ⟨[], .inl ⟨rfl, rfl, rfl, rfl⟩⟩
    · simp [Value.cells] at hcs
      obtain ⟨rfl, rfl, rfl⟩ := hcs
      exact ⟨zs, .inr ⟨_, rfl, hl, hm, by simpa using hz, hcell, hwz⟩⟩
  clear hA0 hval0
  refine (walk a0 len0 cap0 z0 W w0).mono fun e W' ⟨he, bel⟩ => ?_
  subst he
  exact ⟨_, rfl, _, _, _, [], _, [], hW', trodAll_mk1 (shut_bool Try.underlying4 _), (trodAll_cons_mk (Below.trod laidOut (by kernel_rfl) (of_decide_eq_true (by kernel_rfl)) k0 bel lt0) trodAll_mk0), rfl, bel.frame _, fun h => by cases h⟩

theorem over : Rows.fnCostRow.holds Try.pinned (OpenSpec.ofChange Rows.fnCostSpec) :=
  OpenClaim.holds_of_wide 4 Try.f4 rfl rfl rfl rfl rfl rfl rfl ⟨rfl, rfl, rfl, rfl, rfl⟩ rfl rfl rfl rfl rfl (by kernel_rfl) Try.func4 (by kernel_rfl)
    (of_decide_eq_true (by kernel_rfl)) (by unfold Func.isWrapper; first | (rw [if_pos (by decide +kernel)]; kernel_rfl) | (rw [if_neg (by decide +kernel)]; exact ⟨rfl, rfl⟩))
    (fun os started H enc _ => lifted os started H enc)

/--  THE STATEMENT  -/
theorem proved : Rows.FnCostSaid := over
#print axioms proved
end Go.Proofs.Ythkoafcbcnobhaa.fnCost
