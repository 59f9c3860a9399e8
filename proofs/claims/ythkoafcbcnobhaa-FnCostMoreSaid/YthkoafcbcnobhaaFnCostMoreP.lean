/-
  The statement FnCostMore: the law returns true for every input, and what was there before the call has not turned.
  No condition beyond the given statement.
-/
import Derived.Test.YthkoafcbcnobhaaRows
import Derived.WalkKit
import Derived.ProofKit
import Derived.OpenShut
import Derived.ShutString
import Derived.ChangeOld
import Derived.Below
import Derived.Test.YthkoafcbcnobhaaDrwD
import Derived.Test.YthkoafcbcnobhaaShL
namespace Go.Proofs.Ythkoafcbcnobhaa.fnCostMore
open Go.ChangeShapes Go.WideShapes Go.ChangeAt Go.RowKit
open Go.ChangeMaps (open_string shut_string)
set_option linter.unusedVariables false

theorem own : ownKnob Try.prog.godebug = none := by kernel_rfl
theorem laidOut : laidOutB Try.prog = true := by kernel_rfl

/-- WHAT THE WALK IS TOLD OF A SLICE OF INTEGERS THAT CAME IN: it is nil; or it leads to a row of 'cap' cells, the numbers 'zs' (the first 'len' are its elements, the rest its spare room), each fitting its kind. -/
def IsRow (k : IntKind) (w : World) (a : Option Addr) (len cap : Nat) (zs : List Int) : Prop :=
  (a = none ∧ len = 0 ∧ cap = 0 ∧ zs = []) ∨
  ∃ x, a = some x ∧ len ≤ cap ∧ cap ≤ maxLen ∧ zs.length = cap ∧ (∀ i, i < zs.length → w.cell? (x.add i) = some (.int k (zs.getD i 0))) ∧ ∀ n ∈ zs, (Lit.int k n).wf = true


/-! ### STEP 1: THE WALK: the Go text returns true, AND WRITES NOTHING THAT WAS THERE: 'Below w.heap.size w w'' (Derived/Below.lean: '.refl', '.alloc', '.drew', '.setCell' at a new block, '.trans'). Open each 'IsRow' by 'rcases' AHEAD of 'go_enter'; part every test ahead of the walk. -/
set_option maxHeartbeats 4000000 in
set_option maxRecDepth 100000 in
theorem walk (a0 : Option Addr) (len0 cap0 : Nat) (z0 : List Int) (a1 : Option Addr) (len1 cap1 : Nat) (z1 : List Int) (w : World) (w0 : IsRow .u8 w a0 len0 cap0 z0) (w1 : IsRow .u8 w a1 len1 cap1 z1) :
    Calls Try.prog 5 #[.slice a0 len0 cap0, .slice a1 len1 cap1] w fun e w' => e = .returned (.bool true) ∧ Below w.heap.size w w' := by
  obtain ⟨hb, hnc, hc⟩ := bytes_of_row w0
  have hcm := hc
  unfold maxLen at hcm
  by_cases hbig : 1048576 < len0
  · have e1 : decide (1048576 < len0) = true := by simpa using hbig
    go_enter Try.func5, Try.ntmps5
    go_wp2
    go_ret
    exact ⟨rfl, Below.refl _ _⟩
  have e1 : decide (1048576 < len0) = false := by simpa using hbig
  by_cases hbig1 : 1048576 < len1
  · have e2 : decide (1048576 < len1) = true := by simpa using hbig1
    go_enter Try.func5, Try.ntmps5
    go_wp2
    go_ret
    exact ⟨rfl, Below.refl _ _⟩
  have e2 : decide (1048576 < len1) = false := by simpa using hbig1
  obtain ⟨i0, hi0, hz0', hz1', hz2'⟩ := info_parts int1_info
  go_enter Try.func5, Try.ntmps5
  go_wp2_with fail
  refine (draw_cost a0 len0 cap0 _ hb hnc hc).mono ?_
  rintro e w1 ⟨v, u, xs, ls,  rfl, hx7, hl7, hown1, hown2,  hb1⟩
  obtain ⟨A, c, rfl, hnc1, hcm1, hD⟩ := own_shape hown1
  obtain ⟨A1, c1, rfl, hnc2, hcm2, hI⟩ := own_shape hown2
  have hs1 := hb1.size
  replace hD : Dms w1 w1.heap.size A xs.length xs := hD
  replace hI : Ints w1 w1.heap.size A1 ls.length ls := hI
  obtain ⟨n, HL⟩ : ∃ n, xs.length = n := ⟨_, rfl⟩
  obtain ⟨m, HM⟩ : ∃ m, ls.length = m := ⟨_, rfl⟩
  rw [HL] at hD hx7 hnc1
  rw [HM] at hI hl7 hnc2
  rw [HL, HM]
  replace HL := Lib.hid HL
  replace HM := Lib.hid HM
  have hic := fun (w' : World) (hw : Below w1.heap.size w1 w') => icostS_any A A1 n m c c1 xs ls w' ((hD.below hw).more hw.size) ((hI.below hw).more hw.size) (by omega) (by omega)
  have hsc := fun (w' : World) (hw : Below w1.heap.size w1 w') => scost_any A A1 n m c c1 xs ls w' ((hD.below hw).more hw.size) ((hI.below hw).more hw.size) (by omega) (by omega)
  have hB1 : Below w1.heap.size w1 w1 := Below.refl _ _
  by_cases q : shOk xs ls
  · have hnm : n = m := by have := q.2.1; rw [HL.out, HM.out] at this; exact this
    subst hnm
    obtain ⟨s, hs⟩ : ∃ s, sumTo xs ls n = s := ⟨_, rfl⟩
    have hcs : costI xs ls = s := by rw [costI_true q, HM.out, hs]
    have hsb := sum_bd6 q.1 ls (k := n) (by rw [HL.out]; exact Nat.le_refl _)
    rw [hs] at hsb
    rw [hcs] at hic hsc
    have HIC := Lib.hid hic
    have HSC := Lib.hid hsc
    have HQ := Lib.hid q
    have HS := Lib.hid hs
    have q1 : (s != s) = false := by simp
    have q2 : decide (s < 0) = false := by simp; omega
    clear hic hsc q hs hcs hown1 hown2
    by_cases h0 : n = 0
    · subst h0
      have q3 : (((0 : Nat) : Int) == 0) = true := by simp
      go_wp2_with fail
      refine (HIC.out _ hB1).mono ?_
      rintro e w2 ⟨rfl, hbx⟩
      have hB2 := hB1.trans (hbx.mono hB1.size)
      clear hbx
      go_wp2_with fail
      refine (HSC.out _ hB2).mono ?_
      rintro e w3 ⟨rfl, hbx⟩
      have hB3 := hB2.trans (hbx.mono hB2.size)
      clear hbx
      go_wp2
      go_ret
      exact ⟨by simp, hb1.trans (hB3.mono hs1)⟩
    have q3 : ((n : Int) == 0) = false := by simpa using h0
    obtain ⟨b', off', rfl, hb'', hcell⟩ := hI.at_ (by omega)
    obtain ⟨k, hkk⟩ : ∃ k, len1 % n = k := ⟨_, rfl⟩
    have hk : k < n := by rw [← hkk]; exact Nat.mod_lt _ (by omega)
    have hrem : Int.tmod (len1 : Int) (n : Int) = (k : Int) := by rw [← hkk]; exact (Int.ofNat_tmod _ _).symm
    obtain ⟨l, hl⟩ : ∃ l, lX ls k = l := ⟨_, rfl⟩
    have hyk := HQ.out.2.2 k (by rw [HM.out]; exact hk)
    rw [hl] at hyk
    have hck := hcell k hk
    rw [show ls[k]?.getD 0 = l from hl] at hck
    obtain ⟨x, hx⟩ : ∃ x, xs[k]? = some x := ⟨_, List.getElem?_eq_getElem (by rw [HL.out]; exact hk)⟩
    have hxk : dOk (dX xs k) := by rw [dX_of hx]; exact lOk_at HQ.out.1 hx
    have HK := Lib.hid hcell
    clear hcell hkk
    go_wp2_with fail
    refine (HIC.out _ hB1).mono ?_
    rintro e w2 ⟨rfl, hbx⟩
    have hB2 := hB1.trans (hbx.mono hB1.size)
    clear hbx
    go_wp2_with fail
    refine (HSC.out _ hB2).mono ?_
    rintro e w3 ⟨rfl, hbx⟩
    have hB3 := hB2.trans (hbx.mono hB2.size)
    clear hbx
    have hck3 := (hB3.cell (p := ⟨b', off' + k, none⟩) hb'').trans hck
    have hI3 : Ints w3 w3.heap.size (some ⟨b', off', none⟩) n ls := (hI.below hB3).more hB3.size
    have hs3 := hB3.size
    by_cases h2 : l = 2
    · have hp : 0 < s := by
        have := sum_pos HQ.out (by rw [HM.out]; exact hk) (by rw [hl]; exact h2)
        rw [HM.out, HS.out] at this
        exact this
      have q5 : decide (0 < s) = true := by simpa using hp
      subst h2
      clear hck hl
      go_wp2
      go_ret
      exact ⟨rfl, hb1.trans (hB3.mono hs1)⟩
    have q4 : (l == 2) = false := by simpa using h2
    have HE := Lib.hid (own_empty w3 w3.heap.size 3 1 (Nat.le_refl _))
    have HIA := Lib.hid (show Sl (w3.alloc (.cells #[] 3)) w3.heap.size 1 (some ⟨b', off', none⟩) n (ls.map (Value.int .i64)) from Sl.alloc hI3 (Nat.le_refl _) _)
    have hnew := costI_set (k := k) HQ.out (by rw [HM.out]; exact hk) (by rw [hl]; omega)
    have hsp := stp_pos hxk (l := l) hyk.1 (by omega)
    have hspb := stp_bd hxk l
    rw [HM.out, HS.out, hl] at hnew
    generalize stp (dX xs k) l = t at *
    have HNEW := Lib.hid hnew
    have HLK := Lib.hid hl
    have hmx : n ≤ maxLen := by omega
    clear hck hl hnew hxk hx
    go_wp2_with (at_builtin; refine wpList_app _ rfl _ _ 23 rfl w3.heap.size 3 i0 (.int .i64 0) 1 8 Try.underlying23 hi0 hz0' hz1' hz2' rfl (by omega) _ 0 _ rfl HE.out w3.heap.size _ n c1 _ rfl HIA.out (one_ints ls) (by unfold maxLen; omega) (by omega) (by simp) ?_; intro v2 w5 hown5 hgrow hat; simp only [Nat.zero_add, List.nil_append] at hown5; obtain ⟨gr, cap, rfl, hgr, hgr2, hcap, hcap2⟩ := own_head hown5 (by omega); have hc5 := own_cell hown5 (ints_cell (k := k) (by rw [HM.out]; exact hk)); have hf5 := own_free hown5 k; rw [HLK.out] at hc5; have HO5 := Lib.hid hown5; clear hown5)
    have hg5 : Below w3.heap.size w3 w5 := ((Below.refl w3.heap.size w3).alloc (Nat.le_refl _) (.cells #[] 3)).grown hgrow (by simp) (fun k hk => by have := (HE.out.lt k hk).1; omega)
    have HO6 := Lib.hid (own_set (j := k) HO5.out (.int .i64 (l + 1)))
    have hB5 := hB3.trans (hg5.mono hs3)
    have hB6 : Below w1.heap.size w1 (w5.setCell ⟨gr, k, none⟩ (.int .i64 (l + 1))) := hB5.setCell (by show w1.heap.size ≤ gr; omega) _
    have HI6 := Lib.hid (show Ints (w5.setCell ⟨gr, k, none⟩ (.int .i64 (l + 1))) (w5.setCell ⟨gr, k, none⟩ (.int .i64 (l + 1))).heap.size (some ⟨gr, 0, none⟩) n (ls.set k (l + 1)) by
      have h := Sl.of_own HO6.out
      rw [← List.map_set] at h
      exact h)
    have HD6 := Lib.hid (show Dms (w5.setCell ⟨gr, k, none⟩ (.int .i64 (l + 1))) (w5.setCell ⟨gr, k, none⟩ (.int .i64 (l + 1))).heap.size A n xs from (hD.below hB6).more hB6.size)
    have hvn := icostS_any A (some ⟨gr, 0, none⟩) n n c cap xs (ls.set k (l + 1)) (w5.setCell ⟨gr, k, none⟩ (.int .i64 (l + 1))) HD6.out HI6.out (by omega) (by omega)
    rw [HNEW.out] at hvn
    have q6 : decide (s < s + t) = true := by simp; omega
    clear hgrow hat hg5
    refine hvn.mono ?_
    rintro e w7 ⟨rfl, hb7⟩
    go_wp2
    go_ret
    exact ⟨rfl, (hb1.trans (hB6.mono hs1)).trans (hb7.mono (hb1.trans (hB6.mono hs1)).size)⟩
  · rw [costI_false q] at hic hsc
    have HIC := Lib.hid hic
    have HSC := Lib.hid hsc
    clear hic hsc hown1 hown2
    go_wp2_with fail
    refine (HIC.out _ hB1).mono ?_
    rintro e w2 ⟨rfl, hbx⟩
    have hB2 := hB1.trans (hbx.mono hB1.size)
    clear hbx
    go_wp2_with fail
    refine (HSC.out _ hB2).mono ?_
    rintro e w3 ⟨rfl, hbx⟩
    have hB3 := hB2.trans (hbx.mono hB2.size)
    clear hbx
    go_wp2
    go_ret
    exact ⟨rfl, hb1.trans (hB3.mono hs1)⟩

/-! ### THE ROW's STEP: WRITTEN OUT: LEAVE IT -/
set_option maxRecDepth 100000 in
theorem lifted (os : Os) (started : os.Started) (H : Type) (enc : TypeId × Value → H) :
    ReturnsInHanded {} Try.checked os 5 .any (Rows.fnCostMoreSpec.pre6 enc Try.prog Try.f5 Rows.fnCostMoreRow.domain false) (Rows.fnCostMoreSpec.post enc Try.prog Try.f5 false true false false) := by
  refine returnsInHanded_of_change (C := Try.checked) own started (by kernel_rfl) Try.func5
    (ChangeSpec.witness6 (enc := enc) (C := Try.checked) false ⟨#[], #[.slice none 0 0, .slice none 0 0], []⟩ 8 (by kernel_rfl) (by kernel_rfl) (by kernel_rfl) (by kernel_rfl)) ?_
  intro W base args ds gs before hval0 hW hcnd _
  have hval : ∀ (j : Nat) t v, Try.f5.params[j]? = some t → args[j]? = some v → Value.okWide Try.prog W .any base t v := hval0
  have hW' := hW
  obtain ⟨p, q, hA0, hV, rfl, hfz, hnd⟩ := hW
  have hA : DataW.TrodAll enc Try.prog W 0 (fun _ => true) true Try.f5.params.toList args.toList ds p := hA0
  rw [Try.params5] at hA hval
  obtain ⟨v0, vs0, d0, ds0, p0, q0, hargs, rfl, rfl, h0, r0⟩ := trodAll_cons hA
  obtain ⟨v1, vs1, d1, ds1, p1, q1, rfl, rfl, rfl, h1, r1⟩ := trodAll_cons r0
  obtain ⟨rfl, rfl, rfl⟩ := trodAll_nil r1
  obtain rfl : args = #[v0, v1] := by cases args; simp_all
  obtain ⟨rfl, rfl⟩ := trodVars_none hV
  obtain ⟨a0, len0, cap0, rfl⟩ := okWide_slice Try.underlying32 (hval 0 32 v0 rfl rfl)
  have k0 := h0
  have lt0 : ∀ x ∈ p0, x.block < W.heap.size := by obtain ⟨m, hm⟩ := k0; exact DataW.trod_lt m _ _ _ hm
  obtain ⟨z0, w0⟩ : ∃ zs, IsRow .u8 W a0 len0 cap0 zs := by
    obtain ⟨fuel, hf⟩ := h0
    rcases open_ints Try.underlying32 Try.underlying5 (by kernel_rfl) hf with ⟨hcs, _⟩ | ⟨x, l, c, zs, hcs, _, hl, hm, hz, _, hcell, hwz⟩
    · simp [Value.cells] at hcs
      obtain ⟨rfl, rfl, rfl⟩ := hcs
      exact ⟨[], .inl ⟨rfl, rfl, rfl, rfl⟩⟩
    · simp [Value.cells] at hcs
      obtain ⟨rfl, rfl, rfl⟩ := hcs
      exact ⟨zs, .inr ⟨_, rfl, hl, hm, by simpa using hz, hcell, hwz⟩⟩
  obtain ⟨a1, len1, cap1, rfl⟩ := okWide_slice Try.underlying32 (hval 1 32 v1 rfl rfl)
  have k1 := h1
  have lt1 : ∀ x ∈ p1, x.block < W.heap.size := by obtain ⟨m, hm⟩ := k1; exact DataW.trod_lt m _ _ _ hm
  obtain ⟨z1, w1⟩ : ∃ zs, IsRow .u8 W a1 len1 cap1 zs := by
    obtain ⟨fuel, hf⟩ := h1
    rcases open_ints Try.underlying32 Try.underlying5 (by kernel_rfl) hf with ⟨hcs, _⟩ | ⟨x, l, c, zs, hcs, _, hl, hm, hz, _, hcell, hwz⟩
    · simp [Value.cells] at hcs
      obtain ⟨rfl, rfl, rfl⟩ := hcs
      exact ⟨[], .inl ⟨rfl, rfl, rfl, rfl⟩⟩
    · simp [Value.cells] at hcs
      obtain ⟨rfl, rfl, rfl⟩ := hcs
      exact ⟨zs, .inr ⟨_, rfl, hl, hm, by simpa using hz, hcell, hwz⟩⟩
  clear hA0 hval0
  refine (walk a0 len0 cap0 z0 a1 len1 cap1 z1 W w0 w1).mono fun e W' ⟨he, bel⟩ => ?_
  subst he
  exact ⟨_, rfl, _, _, _, [], _, [], hW', trodAll_mk1 (shut_bool Try.underlying4 _), (trodAll_cons_mk (Below.trod laidOut (by kernel_rfl) (of_decide_eq_true (by kernel_rfl)) k0 bel lt0) (trodAll_cons_mk (Below.trod laidOut (by kernel_rfl) (of_decide_eq_true (by kernel_rfl)) k1 bel lt1) trodAll_mk0)), rfl, bel.frame _, fun h => by cases h⟩

theorem over : Rows.fnCostMoreRow.holds Try.pinned (OpenSpec.ofChange Rows.fnCostMoreSpec) :=
  OpenClaim.holds_of_wide 5 Try.f5 rfl rfl rfl rfl rfl rfl rfl ⟨rfl, rfl, rfl, rfl, rfl⟩ rfl rfl rfl rfl rfl (by kernel_rfl) Try.func5 (by kernel_rfl)
    (of_decide_eq_true (by kernel_rfl)) (by unfold Func.isWrapper; first | (rw [if_pos (by decide +kernel)]; kernel_rfl) | (rw [if_neg (by decide +kernel)]; exact ⟨rfl, rfl⟩))
    (fun os started H enc _ => lifted os started H enc)

/--  THE STATEMENT  -/
theorem proved : Rows.FnCostMoreSaid := over
#print axioms proved
end Go.Proofs.Ythkoafcbcnobhaa.fnCostMore
