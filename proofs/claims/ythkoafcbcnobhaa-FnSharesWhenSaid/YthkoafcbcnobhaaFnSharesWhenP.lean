/-
  The statement FnSharesWhen: the law returns true for every input, and what was there before the call has not turned.
  No condition beyond the given statement.
-/
import Derived.Test.YthkoafcbcnobhaaRows
import Derived.WalkKit
import Derived.ProofKit
import Derived.OpenShut
import Derived.ShutString
import Derived.ChangeOld
import Derived.Below
import Derived.Test.YthkoafcbcnobhaaDrwD
import Derived.Test.YthkoafcbcnobhaaShL
namespace Go.Proofs.Ythkoafcbcnobhaa.fnSharesWhen
open Go.ChangeShapes Go.WideShapes Go.ChangeAt Go.RowKit
open Go.ChangeMaps (open_string shut_string)
set_option linter.unusedVariables false

theorem own : ownKnob Try.prog.godebug = none := by kernel_rfl
theorem laidOut : laidOutB Try.prog = true := by kernel_rfl

/-- WHAT THE WALK IS TOLD OF A SLICE OF INTEGERS THAT CAME IN: it is nil; or it leads to a row of 'cap' cells, the numbers 'zs' (the first 'len' are its elements, the rest its spare room), each fitting its kind. -/
def IsRow (k : IntKind) (w : World) (a : Option Addr) (len cap : Nat) (zs : List Int) : Prop :=
  (a = none ∧ len = 0 ∧ cap = 0 ∧ zs = []) ∨
  ∃ x, a = some x ∧ len ≤ cap ∧ cap ≤ maxLen ∧ zs.length = cap ∧ (∀ i, i < zs.length → w.cell? (x.add i) = some (.int k (zs.getD i 0))) ∧ ∀ n ∈ zs, (Lit.int k n).wf = true

def WInv (xs : List Dm) (ls : List Int) (left : Int) (n k : Nat) : Bool → Prop
  | true => ∀ j, j < k → ¬ fit xs ls left j
  | false => ∃ j, j < n ∧ fit xs ls left j

/-! ### STEP 1: THE WALK: the Go text returns true, AND WRITES NOTHING THAT WAS THERE: 'Below w.heap.size w w'' (Derived/Below.lean: '.refl', '.alloc', '.drew', '.setCell' at a new block, '.trans'). Open each 'IsRow' by 'rcases' AHEAD of 'go_enter'; part every test ahead of the walk. -/
set_option maxHeartbeats 4000000 in
set_option maxRecDepth 100000 in
theorem walk (a0 : Option Addr) (len0 cap0 : Nat) (z0 : List Int) (w : World) (w0 : IsRow .u8 w a0 len0 cap0 z0) :
    Calls Try.prog 6 #[.slice a0 len0 cap0] w fun e w' => e = .returned (.bool true) ∧ Below w.heap.size w w' := by
  obtain ⟨hb, hnc, hc⟩ := bytes_of_row w0
  have hcm := hc
  unfold maxLen at hcm
  by_cases hbig : 1048576 < len0
  · have e1 : decide (1048576 < len0) = true := by simpa using hbig
    go_enter Try.func6, Try.ntmps6
    go_wp2
    go_ret
    exact ⟨rfl, Below.refl _ _⟩
  have e1 : decide (1048576 < len0) = false := by simpa using hbig
  obtain ⟨i0, hi0, hz0', hz1', hz2'⟩ := info_parts int1_info
  go_enter Try.func6, Try.ntmps6
  go_wp2_with fail
  refine (draw_full a0 len0 cap0 _ hb hnc hc).mono ?_
  rintro e w1 ⟨v, u, xs, ls, z, rfl, hx7, hl7, hown1, hown2, hz0, hz1, hb1⟩
  obtain ⟨A, c, rfl, hnc1, hcm1, hD⟩ := own_shape hown1
  obtain ⟨A1, c1, rfl, hnc2, hcm2, hI⟩ := own_shape hown2
  have hs1 := hb1.size
  replace hD : Dms w1 w1.heap.size A xs.length xs := hD
  replace hI : Ints w1 w1.heap.size A1 ls.length ls := hI
  obtain ⟨n, HL⟩ : ∃ n, xs.length = n := ⟨_, rfl⟩
  obtain ⟨m, HM⟩ : ∃ m, ls.length = m := ⟨_, rfl⟩
  rw [HL] at hD hx7 hnc1
  rw [HM] at hI hl7 hnc2
  rw [HL, HM]
  replace HL := Lib.hid HL
  replace HM := Lib.hid HM
  have hic := fun (w' : World) (hw : Below w1.heap.size w1 w') => icostS_any A A1 n m c c1 xs ls w' ((hD.below hw).more hw.size) ((hI.below hw).more hw.size) (by omega) (by omega)
  have hif := fun (w' : World) (hw : Below w1.heap.size w1 w') => ifull_any A A1 n m c c1 xs ls z w' ((hD.below hw).more hw.size) ((hI.below hw).more hw.size) (by omega) (by omega)
  have hsf := fun (w' : World) (hw : Below w1.heap.size w1 w') => sfull_any A A1 n m c c1 xs ls z w' ((hD.below hw).more hw.size) ((hI.below hw).more hw.size) (by omega) (by omega)
  clear hown1 hown2
  have hsc := fun (w' : World) (hw : Below w1.heap.size w1 w') => scost_any A A1 n m c c1 xs ls w' ((hD.below hw).more hw.size) ((hI.below hw).more hw.size) (by omega) (by omega)
  have hB1 : Below w1.heap.size w1 w1 := Below.refl _ _
  clear hsc
  by_cases q : shOk xs ls
  · have hnm : n = m := by have := q.2.1; rw [HL.out, HM.out] at this; exact this
    subst hnm
    obtain ⟨s, hs⟩ : ∃ s, sumTo xs ls n = s := ⟨_, rfl⟩
    have hcs : costI xs ls = s := by rw [costI_true q, HM.out, hs]
    have hsb := sum_bd6 q.1 ls (k := n) (by rw [HL.out]; exact Nat.le_refl _)
    rw [hs] at hsb
    rw [hcs] at hic
    have HIC := Lib.hid hic
    have HQ := Lib.hid q
    have HS := Lib.hid hs
    have q2 : decide (0 ≤ s) = true := by simpa using hsb.1
    have q4 : decide (z ≤ 999999) = true := by simp; omega
    clear hic q hs hcs
    by_cases hsz : s ≤ z
    · have q3 : decide (s ≤ z) = true := by simpa using hsz
      obtain ⟨fb, hfb⟩ : ∃ fb, fullB xs ls z = fb := ⟨_, rfl⟩
      rw [hfb] at hif hsf
      have HIF := Lib.hid hif
      have HSF := Lib.hid hsf
      have HFB := Lib.hid hfb
      clear hif hsf hfb
      have q1 : (fb != fb) = false := by simp
      go_wp2_with fail
      refine (HIF.out _ hB1).mono ?_
      rintro e w2 ⟨rfl, hbx⟩
      have hB2 := hB1.trans (hbx.mono hB1.size)
      clear hbx
      go_wp2_with fail
      refine (HSF.out _ hB2).mono ?_
      rintro e w3 ⟨rfl, hbx⟩
      have hB3 := hB2.trans (hbx.mono hB2.size)
      clear hbx
      go_wp2_with fail
      refine (HIC.out _ hB3).mono ?_
      rintro e w4 ⟨rfl, hbx⟩
      have hB4 := hB3.trans (hbx.mono hB3.size)
      clear hbx
      go_wp2
      go_loopw [9, 10] (fun av i wr => ∃ (k : Nat) (a : Bool), k ≤ n ∧ i = .int .i64 k ∧ av = .bool a ∧ Hid (WInv xs ls (z - s) n k a) ∧ Below w1.heap.size w1 wr) (fun av i _ => n - (intOf i).toNat)
      case atStart => exact ⟨0, true, by omega, rfl, rfl, Lib.hid (show WInv xs ls (z - s) n 0 true from fun j hj => absurd hj (by omega)), hB4⟩
      case round =>
        clear hB4 hB3 hB2
        obtain ⟨k, a, hk, rfl, rfl, hok, hB⟩ := hrel
        have hbs := hB.size
        cases a
        · have hfb : fb = false := by
            obtain ⟨j, hj, hf⟩ := (show ∃ j, j < n ∧ fit xs ls (z - s) j from hok.out)
            rw [← HFB.out]
            exact fullB_false fun hp => hp.2.2.2 j (by rw [HM.out]; exact hj) (by rw [HM.out, HS.out]; exact hf)
          subst hfb
          by_cases hlt : k < n
          · have e3 : decide (k < n) = true := by simpa using hlt
            go_wp2
            go_ret
            exact ⟨rfl, hb1.trans (hB.mono hs1)⟩
          · have e3 : decide (k < n) = false := by simpa using hlt
            go_wp2
            go_ret
            exact ⟨rfl, hb1.trans (hB.mono hs1)⟩
        by_cases hlt : k < n
        · have e3 : decide (k < n) = true := by simpa using hlt
          obtain ⟨b', off', rfl, hb'', hcell⟩ := hI.at_ (by omega)
          obtain ⟨l, hl⟩ : ∃ l, lX ls k = l := ⟨_, rfl⟩
          have hyk := HQ.out.2.2 k (by rw [HM.out]; exact hlt)
          rw [hl] at hyk
          have hck := hcell k hlt
          rw [show ls[k]?.getD 0 = l from hl] at hck
          replace hck := (hB.cell (p := ⟨b', off' + k, none⟩) hb'').trans hck
          obtain ⟨x, hx⟩ : ∃ x, xs[k]? = some x := ⟨_, List.getElem?_eq_getElem (by rw [HL.out]; exact hlt)⟩
          have hdk : dOk x := lOk_at HQ.out.1 hx
          clear hcell
          by_cases h2 : l < 2
          · have e4 : decide (l < 2) = true := by simpa using h2
            have HE := Lib.hid (own_empty wr wr.heap.size 3 1 (Nat.le_refl _))
            have hI3 : Ints wr wr.heap.size (some ⟨b', off', none⟩) n ls := (hI.below hB).more hbs
            have HIA := Lib.hid (show Sl (wr.alloc (.cells #[] 3)) wr.heap.size 1 (some ⟨b', off', none⟩) n (ls.map (Value.int .i64)) from Sl.alloc hI3 (Nat.le_refl _) _)
            have hnew := costI_set (k := k) HQ.out (by rw [HM.out]; exact hlt) (by rw [hl]; omega)
            have hspb := stp_bd hdk l
            obtain ⟨t, ht⟩ : ∃ t, stp x l = t := ⟨_, rfl⟩
            rw [HM.out, HS.out, hl, dX_of hx, ht] at hnew
            rw [ht] at hspb
            have hfi := Lib.hid (fit_iff (left := z - s) hx hl ht)
            have HNEW := Lib.hid hnew
            have HLK := Lib.hid hl
            have hmx : n ≤ maxLen := by omega
            clear hl hnew hx ht hI3
            go_wp2_with (at_builtin; refine wpList_app _ rfl _ _ 23 rfl wr.heap.size 3 i0 (.int .i64 0) 1 8 Try.underlying23 hi0 hz0' hz1' hz2' rfl (by omega) _ 0 _ rfl HE.out wr.heap.size _ n c1 _ rfl HIA.out (one_ints ls) (by unfold maxLen; omega) (by omega) (by simp) ?_; intro v2 w5 hown5 hgrow hat; simp only [Nat.zero_add, List.nil_append] at hown5; obtain ⟨gr, cap, rfl, hgr, hgr2, hcap, hcap2⟩ := own_head hown5 (by omega); have hc5 := own_cell hown5 (ints_cell (k := k) (by rw [HM.out]; exact hlt)); have hf5 := own_free hown5 k; rw [HLK.out] at hc5; have HO5 := Lib.hid hown5; clear hown5)
            have hg5 : Below wr.heap.size wr w5 := ((Below.refl wr.heap.size wr).alloc (Nat.le_refl _) (.cells #[] 3)).grown hgrow (by simp) (fun k hk => by have := (HE.out.lt k hk).1; omega)
            have HO6 := Lib.hid (own_set (j := k) HO5.out (.int .i64 (l + 1)))
            have hB5 := hB.trans (hg5.mono hbs)
            have hB6 : Below w1.heap.size w1 (w5.setCell ⟨gr, k, none⟩ (.int .i64 (l + 1))) := hB5.setCell (by show w1.heap.size ≤ gr; omega) _
            have HI6 := Lib.hid (show Ints (w5.setCell ⟨gr, k, none⟩ (.int .i64 (l + 1))) (w5.setCell ⟨gr, k, none⟩ (.int .i64 (l + 1))).heap.size (some ⟨gr, 0, none⟩) n (ls.set k (l + 1)) by
              have h := Sl.of_own HO6.out
              rw [← List.map_set] at h
              exact h)
            have HD6 := Lib.hid (show Dms (w5.setCell ⟨gr, k, none⟩ (.int .i64 (l + 1))) (w5.setCell ⟨gr, k, none⟩ (.int .i64 (l + 1))).heap.size A n xs from (hD.below hB6).more hB6.size)
            have hvn := icostS_any A (some ⟨gr, 0, none⟩) n n c cap xs (ls.set k (l + 1)) (w5.setCell ⟨gr, k, none⟩ (.int .i64 (l + 1))) HD6.out HI6.out (by omega) (by omega)
            rw [HNEW.out] at hvn
            clear hgrow hat hg5
            refine hvn.mono ?_
            rintro e w7 ⟨rfl, hb7⟩
            have hB7 := hB6.trans (hb7.mono hB6.size)
            by_cases hz : z < s + t
            · have e5 : decide (z < s + t) = true := by simpa using hz
              have hnx := Lib.hid (show WInv xs ls (z - s) n (k + 1) true from no_succ (show ∀ j, j < k → ¬ fit xs ls (z - s) j from hok.out) (by rw [hfi.out]; omega))
              go_wp2
              go_roundw
              case rel => exact ⟨k + 1, true, by omega, by go_num, rfl, hnx, hB7⟩
              case measure => simp [intOf]; omega
            · have e5 : decide (z < s + t) = false := by simpa using hz
              have hnx := Lib.hid (show WInv xs ls (z - s) n (k + 1) false from ⟨k, hlt, hfi.out.2 ⟨by omega, by omega⟩⟩)
              go_wp2
              go_roundw
              case rel => exact ⟨k + 1, false, by omega, by go_num, rfl, hnx, hB7⟩
              case measure => simp [intOf]; omega
          · have e4 : decide (l < 2) = false := by simpa using h2
            have hnx := Lib.hid (show WInv xs ls (z - s) n (k + 1) true from no_succ (show ∀ j, j < k → ¬ fit xs ls (z - s) j from hok.out) (by rw [fit_iff hx hl rfl]; omega))
            clear hl hx
            go_wp2
            go_roundw
            case rel => exact ⟨k + 1, true, by omega, by go_num, rfl, hnx, hB⟩
            case measure => simp [intOf]; omega
        · have hkn : k = n := by omega
          subst hkn
          have hfb : fb = true := by
            rw [← HFB.out]
            exact fullB_true ⟨HQ.out, by rw [HM.out, HS.out]; exact hsz, by omega, by rw [HM.out, HS.out]; exact (show ∀ j, j < k → ¬ fit xs ls (z - s) j from hok.out)⟩
          subst hfb
          go_wp2
          go_ret
          exact ⟨rfl, hb1.trans (hB.mono hs1)⟩
    have q3 : decide (s ≤ z) = false := by simpa using hsz
    rw [fullB_false (xs := xs) (ls := ls) (bud := z) (fun hp => by have := hp.2.1; rw [HM.out, HS.out] at this; exact hsz this)] at hif hsf
    have HIF := Lib.hid hif
    have HSF := Lib.hid hsf
    clear hif hsf
    go_wp2_with fail
    refine (HIF.out _ hB1).mono ?_
    rintro e w2 ⟨rfl, hbx⟩
    have hB2 := hB1.trans (hbx.mono hB1.size)
    clear hbx
    go_wp2_with fail
    refine (HSF.out _ hB2).mono ?_
    rintro e w3 ⟨rfl, hbx⟩
    have hB3 := hB2.trans (hbx.mono hB2.size)
    clear hbx
    go_wp2_with fail
    refine (HIC.out _ hB3).mono ?_
    rintro e w4 ⟨rfl, hbx⟩
    have hB4 := hB3.trans (hbx.mono hB3.size)
    clear hbx
    go_wp2
    go_loopw [9, 10] (fun a i wr => a = .bool false ∧ i = .int .i64 0 ∧ Below w1.heap.size w1 wr) (fun _ _ _ => 0)
    case atStart => exact ⟨rfl, rfl, hB4⟩
    case round =>
      obtain ⟨rfl, rfl, hB⟩ := hrel
      by_cases hm0 : 0 < n
      · have q5 : decide (0 < n) = true := by simpa using hm0
        go_wp2
        go_ret
        exact ⟨rfl, hb1.trans (hB.mono hs1)⟩
      · have hm1 : n = 0 := by omega
        subst hm1
        go_wp2
        go_ret
        exact ⟨rfl, hb1.trans (hB.mono hs1)⟩
  · rw [costI_false q] at hic
    rw [fullB_false (xs := xs) (ls := ls) (bud := z) (fun hp => q hp.1)] at hif hsf
    have HIC := Lib.hid hic
    have HIF := Lib.hid hif
    have HSF := Lib.hid hsf
    clear hic hif hsf
    go_wp2_with fail
    refine (HIF.out _ hB1).mono ?_
    rintro e w2 ⟨rfl, hbx⟩
    have hB2 := hB1.trans (hbx.mono hB1.size)
    clear hbx
    go_wp2_with fail
    refine (HSF.out _ hB2).mono ?_
    rintro e w3 ⟨rfl, hbx⟩
    have hB3 := hB2.trans (hbx.mono hB2.size)
    clear hbx
    go_wp2_with fail
    refine (HIC.out _ hB3).mono ?_
    rintro e w4 ⟨rfl, hbx⟩
    have hB4 := hB3.trans (hbx.mono hB3.size)
    clear hbx
    go_wp2
    go_loopw [9, 10] (fun a i wr => a = .bool false ∧ i = .int .i64 0 ∧ Below w1.heap.size w1 wr) (fun _ _ _ => 0)
    case atStart => exact ⟨rfl, rfl, hB4⟩
    case round =>
      obtain ⟨rfl, rfl, hB⟩ := hrel
      by_cases hm0 : 0 < m
      · have q5 : decide (0 < m) = true := by simpa using hm0
        go_wp2
        go_ret
        exact ⟨rfl, hb1.trans (hB.mono hs1)⟩
      · have hm1 : m = 0 := by omega
        subst hm1
        go_wp2
        go_ret
        exact ⟨rfl, hb1.trans (hB.mono hs1)⟩

/-! ### THE ROW's STEP: WRITTEN OUT: LEAVE IT -/
set_option maxRecDepth 100000 in
theorem lifted (os : Os) (started : os.Started) (H : Type) (enc : TypeId × Value → H) :
    ReturnsInHanded {} Try.checked os 6 .any (Rows.fnSharesWhenSpec.pre6 enc Try.prog Try.f6 Rows.fnSharesWhenRow.domain false) (Rows.fnSharesWhenSpec.post enc Try.prog Try.f6 false true false false) := by
  refine returnsInHanded_of_change (C := Try.checked) own started (by kernel_rfl) Try.func6
    (ChangeSpec.witness6 (enc := enc) (C := Try.checked) false ⟨#[], #[.slice none 0 0], []⟩ 8 (by kernel_rfl) (by kernel_rfl) (by kernel_rfl) (by kernel_rfl)) ?_
  intro W base args ds gs before hval0 hW hcnd _
  have hval : ∀ (j : Nat) t v, Try.f6.params[j]? = some t → args[j]? = some v → Value.okWide Try.prog W .any base t v := hval0
  have hW' := hW
  obtain ⟨p, q, hA0, hV, rfl, hfz, hnd⟩ := hW
  have hA : DataW.TrodAll enc Try.prog W 0 (fun _ => true) true Try.f6.params.toList args.toList ds p := hA0
  rw [Try.params6] at hA hval
  obtain ⟨v0, vs0, d0, ds0, p0, q0, hargs, rfl, rfl, h0, r0⟩ := trodAll_cons hA
  obtain ⟨rfl, rfl, rfl⟩ := trodAll_nil r0
  obtain rfl : args = #[v0] := by cases args; simp_all
  obtain ⟨rfl, rfl⟩ := trodVars_none hV
  obtain ⟨a0, len0, cap0, rfl⟩ := okWide_slice Try.underlying32 (hval 0 32 v0 rfl rfl)
  have k0 := h0
  have lt0 : ∀ x ∈ p0, x.block < W.heap.size := by obtain ⟨m, hm⟩ := k0; exact DataW.trod_lt m _ _ _ hm
  obtain ⟨z0, w0⟩ : ∃ zs, IsRow .u8 W a0 len0 cap0 zs := by
    obtain ⟨fuel, hf⟩ := h0
    rcases open_ints Try.underlying32 Try.underlying5 (by kernel_rfl) hf with ⟨hcs, _⟩ | ⟨x, l, c, zs, hcs, _, hl, hm, hz, _, hcell, hwz⟩
    · simp [Value.cells] at hcs
      obtain ⟨rfl, rfl, rfl⟩ := hcs
      exact ⟨[], .inl ⟨rfl, rfl, rfl, rfl⟩⟩
    · simp [Value.cells] at hcs
      obtain ⟨rfl, rfl, rfl⟩ := hcs
      exact ⟨zs, .inr ⟨_, rfl, hl, hm, by simpa using hz, hcell, hwz⟩⟩
  clear hA0 hval0
  refine (walk a0 len0 cap0 z0 W w0).mono fun e W' ⟨he, bel⟩ => ?_
  subst he
  exact ⟨_, rfl, _, _, _, [], _, [], hW', trodAll_mk1 (shut_bool Try.underlying4 _), (trodAll_cons_mk (Below.trod laidOut (by kernel_rfl) (of_decide_eq_true (by kernel_rfl)) k0 bel lt0) trodAll_mk0), rfl, bel.frame _, fun h => by cases h⟩

theorem over : Rows.fnSharesWhenRow.holds Try.pinned (OpenSpec.ofChange Rows.fnSharesWhenSpec) :=
  OpenClaim.holds_of_wide 6 Try.f6 rfl rfl rfl rfl rfl rfl rfl ⟨rfl, rfl, rfl, rfl, rfl⟩ rfl rfl rfl rfl rfl (by kernel_rfl) Try.func6 (by kernel_rfl)
    (of_decide_eq_true (by kernel_rfl)) (by unfold Func.isWrapper; first | (rw [if_pos (by decide +kernel)]; kernel_rfl) | (rw [if_neg (by decide +kernel)]; exact ⟨rfl, rfl⟩))
    (fun os started H enc _ => lifted os started H enc)

/--  THE STATEMENT  -/
theorem proved : Rows.FnSharesWhenSaid := over
#print axioms proved
end Go.Proofs.Ythkoafcbcnobhaa.fnSharesWhen
