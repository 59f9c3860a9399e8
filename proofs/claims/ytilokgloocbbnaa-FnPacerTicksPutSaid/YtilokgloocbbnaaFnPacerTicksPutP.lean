/-
  The statement FnPacerTicksPut: the law returns true for every input, and what was there before the call has not turned.
  No condition beyond the given statement.
-/
import Derived.Test.YtilokgloocbbnaaRows
import Derived.WalkKit
import Derived.ProofKit
import Derived.OpenShut
import Derived.ShutString
import Derived.ChangeOld
import Derived.Below
import Derived.Test.YtilokgloocbbnaaPac
import Derived.Test.YtilokgloocbbnaaPacB
import Derived.Test.YtilokgloocbbnaaPacD
import Derived.Test.YtilokgloocbbnaaPacE
import Derived.Test.YtilokgloocbbnaaPacF
import Derived.Test.YtilokgloocbbnaaPacG
import Derived.Test.YtilokgloocbbnaaPacH
import Derived.Test.YtilokgloocbbnaaPacI
import Derived.Test.YtilokgloocbbnaaPacJ
import Derived.Test.YtilokgloocbbnaaPacK
import Derived.Test.YtilokgloocbbnaaPacL
import Derived.Test.YtilokgloocbbnaaPacM
import Derived.Test.YtilokgloocbbnaaPacN
import Derived.Test.YtilokgloocbbnaaPacO
namespace Go.Proofs.Ytilokgloocbbnaa.fnPacerTicksPut
open Go.ChangeShapes Go.WideShapes Go.ChangeAt Go.RowKit
open Go.ChangeMaps (open_string shut_string)
set_option linter.unusedVariables false

theorem own : ownKnob Try.prog.godebug = none := by kernel_rfl
theorem laidOut : laidOutB Try.prog = true := by kernel_rfl

/-- WHAT THE WALK IS TOLD OF A SLICE OF INTEGERS THAT CAME IN: it is nil; or it leads to a row of 'cap' cells, the numbers 'zs' (the first 'len' are its elements, the rest its spare room), each fitting its kind. -/
def IsRow (k : IntKind) (w : World) (a : Option Addr) (len cap : Nat) (zs : List Int) : Prop :=
  (a = none ∧ len = 0 ∧ cap = 0 ∧ zs = []) ∨
  ∃ x, a = some x ∧ len ≤ cap ∧ cap ≤ maxLen ∧ zs.length = cap ∧ (∀ i, i < zs.length → w.cell? (x.add i) = some (.int k (zs.getD i 0))) ∧ ∀ n ∈ zs, (Lit.int k n).wf = true


/-! ### STEP 1: THE WALK: the Go text returns true, AND WRITES NOTHING THAT WAS THERE: 'Below w.heap.size w w'' (Derived/Below.lean: '.refl', '.alloc', '.drew', '.setCell' at a new block, '.trans'). Open each 'IsRow' by 'rcases' AHEAD of 'go_enter'; part every test ahead of the walk. -/
set_option maxHeartbeats 4000000 in
set_option maxRecDepth 100000 in
theorem walk (a0 : Option Addr) (len0 cap0 : Nat) (z0 : List Int) (a1 : Option Addr) (len1 cap1 : Nat) (z1 : List Int) (w : World) (w0 : IsRow .u8 w a0 len0 cap0 z0) (w1 : IsRow .u8 w a1 len1 cap1 z1) :
    Calls Try.prog 10 #[.slice a0 len0 cap0, .slice a1 len1 cap1] w fun e w' => e = .returned (.bool true) ∧ Below w.heap.size w w' := by
  obtain ⟨hb, hnc, hc⟩ := bytes_of_row w0
  have hcm := hc
  unfold maxLen at hcm
  by_cases hbig : 1048576 < len0
  · have e1 : decide (1048576 < len0) = true := by simpa using hbig
    go_enter Try.func10, Try.ntmps10
    go_wp2
    go_ret
    exact ⟨rfl, Below.refl _ _⟩
  · have e1 : decide (1048576 < len0) = false := by simpa using hbig
    obtain ⟨hb', hnc1, hcc1⟩ := bytes_of_row w1
    unfold maxLen at hcc1
    by_cases hbig1 : 1048576 < len1
    · have e2 : decide (1048576 < len1) = true := by simpa using hbig1
      go_enter Try.func10, Try.ntmps10
      go_wp2
      go_ret
      exact ⟨rfl, Below.refl _ _⟩
    have e2 : decide (1048576 < len1) = false := by simpa using hbig1
    clear hb' w1
    go_enter Try.func10, Try.ntmps10
    go_wp2_with fail
    refine (draw_ticks a0 len0 cap0 _ hb hnc hc).mono ?_
    rintro x w1 ⟨a, b, u, rfl, hpf, hb1⟩
    obtain ⟨ea, cr, A, n, c, xs, rfl, rfl, rfl, hn12, hnc', hc', hX, hA⟩ := hpf.shape
    clear hpf hA
    have hs1 := hb1.size
    have hP := Bk.new w1 25 #[.int .i64 ea, .int .i64 cr, .slice A n c]
    have hn4 : n ≤ 1099511627776 := by omega
    have hbx : Below w1.heap.size w1 (w1.alloc (.cells #[.int .i64 ea, .int .i64 cr, .slice A n c] 25)) := (by repeat (first | exact Below.refl _ _ | assumption | refine Below.setCell ?_ (by first | omega | (simp; done) | (simp; omega)) _ | refine Below.alloc ?_ (by first | omega | (simp; done) | (simp; omega)) _ | refine Below.drew ?_ | refine Below.drewN' ?_ _ | refine Below.trans ?_ (Below.mono (by assumption) (by first | omega | (simp; done) | (simp; omega)))))
    replace hX := hX.step hbx
    have hB1 := hb1.trans (hbx.mono hs1)
    clear hbx hb1
    generalize hT : ticks ea cr xs = T at *
    have HT := Lib.hid hT
    have hit := fun w h => iticks_any ea cr A n c xs w h hn4 hnc' hc'
    have hst := fun w h => sticks_any ea cr A n c xs w h hn4 hnc' hc'
    rw [hT] at hit hst
    have HIT := Lib.hid hit
    have HST := Lib.hid hst
    clear hT hit hst
    by_cases hneg : T < 0
    · have q1 : decide (T < 0) = true := by simpa using hneg
      have q2 : (T == T) = true := by simp
      have q3 : (T != T) = false := by simp
      go_wp2_with fail
      refine (HIT.out _ hX).mono ?_
      rintro x w2 ⟨rfl, hb2⟩
      replace hX := hX.step hb2
      replace hP := hP.below hb2 (by first | omega | exact hP.lt | (simp; done) | (simp; omega))
      (try clear hP_c0); (try clear hP_f0)
      (try clear hP_c1); (try clear hP_f1)
      (try clear hP_c2); (try clear hP_f2)
      (try clear hP_lt)
      have hP_lt := hP.lt; (try simp only [World.size_alloc] at hP_lt)
      have hP_c0 := hP.cell 0; have hP_f0 := hP.frozen 0
      have hP_c1 := hP.cell 1; have hP_f1 := hP.frozen 1
      have hP_c2 := hP.cell 2; have hP_f2 := hP.frozen 2
      simp only [List.getElem?_toArray, List.getElem?_cons_zero, List.getElem?_cons_succ] at hP_c0 hP_c1 hP_c2
      have hB2 := hB1.trans (hb2.mono hB1.size)
      clear hb2
      go_wp2_with fail
      refine (HST.out _ hX).mono ?_
      rintro x w3 ⟨rfl, hb3⟩
      have hB3 := hB2.trans (hb3.mono hB2.size)
      go_wp2
      go_ret
      exact ⟨rfl, hB3⟩
    · have q1 : decide (T < 0) = false := by simpa using hneg
      have q3 : (T != T) = false := by simp
      go_wp2_with fail
      refine (HIT.out _ hX).mono ?_
      rintro x w2 ⟨rfl, hb2⟩
      replace hX := hX.step hb2
      replace hP := hP.below hb2 (by first | omega | exact hP.lt | (simp; done) | (simp; omega))
      (try clear hP_c0); (try clear hP_f0)
      (try clear hP_c1); (try clear hP_f1)
      (try clear hP_c2); (try clear hP_f2)
      (try clear hP_lt)
      have hP_lt := hP.lt; (try simp only [World.size_alloc] at hP_lt)
      have hP_c0 := hP.cell 0; have hP_f0 := hP.frozen 0
      have hP_c1 := hP.cell 1; have hP_f1 := hP.frozen 1
      have hP_c2 := hP.cell 2; have hP_f2 := hP.frozen 2
      simp only [List.getElem?_toArray, List.getElem?_cons_zero, List.getElem?_cons_succ] at hP_c0 hP_c1 hP_c2
      have hB2 := hB1.trans (hb2.mono hB1.size)
      have hs2 := hb2.size
      simp only [World.size_alloc] at hs2
      clear hb2
      go_wp2_with fail
      refine (HST.out _ hX).mono ?_
      rintro x w3 ⟨rfl, hb3⟩
      replace hX := hX.step hb3
      replace hP := hP.below hb3 (by first | omega | exact hP.lt | (simp; done) | (simp; omega))
      (try clear hP_c0); (try clear hP_f0)
      (try clear hP_c1); (try clear hP_f1)
      (try clear hP_c2); (try clear hP_f2)
      (try clear hP_lt)
      have hP_lt := hP.lt; (try simp only [World.size_alloc] at hP_lt)
      have hP_c0 := hP.cell 0; have hP_f0 := hP.frozen 0
      have hP_c1 := hP.cell 1; have hP_f1 := hP.frozen 1
      have hP_c2 := hP.cell 2; have hP_f2 := hP.frozen 2
      simp only [List.getElem?_toArray, List.getElem?_cons_zero, List.getElem?_cons_succ] at hP_c0 hP_c1 hP_c2
      have hs3 := hb3.size
      have hB3 := hB2.trans (hb3.mono hB2.size)
      clear hb3 hB1 hB2
      have hp : pOk ea cr xs := by
        apply Classical.byContradiction
        intro h
        have := HT.out
        unfold ticks at this
        rw [pB_false.2 h] at this
        simp at this
        omega
      have hTT : tcks ea 200 cr xs 0 = T := by
        have := HT.out
        unfold ticks at this
        rwa [if_pos (pB_true.2 hp)] at this
      have HP := Lib.hid hp
      have HTT := Lib.hid hTT
      have ht200 : T ≤ 200 := by
        rcases tcks_ge ea 200 cr xs 0 with h | h <;> omega
      have ht0 : 0 ≤ T := by omega
      clear hp hTT
      have hgs : w.heap.size ≤ w3.heap.size := hB3.size
      obtain ⟨ml, hml⟩ : ∃ ml : Nat, len1 % 3 = ml := ⟨_, rfl⟩
      obtain ⟨ms, hms⟩ : ∃ ms : Nat, len1 % 1500 = ms := ⟨_, rfl⟩
      have hml3 : ml < 3 := by omega
      have hms3 : ms < 1500 := by omega
      have hm1 : (len1 : Int).tmod 3 = (ml : Int) := by rw [← hml]; rfl
      have hm2 : (len1 : Int).tmod 1500 = (ms : Int) := by rw [← hms]; rfl
      have hm1' : (len1 : Int) % 3 = (ml : Int) := by omega
      have hm2' : (len1 : Int) % 1500 = (ms : Int) := by omega
      clear hml hms
      by_cases h12 : n = 12
      · have hno : ¬ PutIn ea cr xs ⟨1, ml, 1 + ms⟩ := fun h => h.2.2 (by rw [hX.len]; exact h12)
        clear h12
        go_wp2_with fail
        refine (iput_bad ea cr A n c xs ⟨1, ml, 1 + ms⟩ w3 hX hn4 hno).mono ?_
        rintro x w4 ⟨rfl, hb4⟩
        have hB4 := hB3.trans (hb4.mono hgs)
        have hZ := Bk.new w4 25 #[.int .i64 0, .int .i64 0, .slice none 0 0]
        (try clear hP_c0); (try clear hP_f0)
        (try clear hP_c1); (try clear hP_f1)
        (try clear hP_c2); (try clear hP_f2)
        (try clear hP_lt)
        clear hP hb4
        (try clear hZ_c0); (try clear hZ_f0)
        (try clear hZ_c1); (try clear hZ_f1)
        (try clear hZ_c2); (try clear hZ_f2)
        (try clear hZ_lt)
        have hZ_lt := hZ.lt; (try simp only [World.size_alloc] at hZ_lt)
        have hZ_c0 := hZ.cell 0; have hZ_f0 := hZ.frozen 0
        have hZ_c1 := hZ.cell 1; have hZ_f1 := hZ.frozen 1
        have hZ_c2 := hZ.cell 2; have hZ_f2 := hZ.frozen 2
        simp only [List.getElem?_toArray, List.getElem?_cons_zero, List.getElem?_cons_succ] at hZ_c0 hZ_c1 hZ_c2
        go_wp2_with fail
        refine (iticks_any 0 0 none 0 0 [] _ Sl.none_ (by omega) (by omega) (by omega)).mono ?_
        rintro x w5 ⟨rfl, hb5⟩
        have hB5 : Below w.heap.size w w5 := (hB4.alloc hB4.size _).trans (hb5.mono (by have := hB4.size; simp; omega))
        go_wp2
        go_ret
        exact ⟨rfl, hB5⟩
      · have hin : PutIn ea cr xs ⟨1, ml, 1 + ms⟩ := ⟨HP.out, ⟨by show (0 : Int) ≤ 1; omega, by show (1 : Int) ≤ 999999; omega, by show (0 : Int) ≤ ml; omega, by show (ml : Int) ≤ 2; omega, by show (1 : Int) ≤ 1 + ms; omega, by show (1 : Int) + ms ≤ 1500; omega⟩, by rw [hX.len]; exact h12⟩
        have HIN := Lib.hid hin
        clear hin
        have hnn : n < 12 := by omega
        clear h12
        go_wp2_with fail
        refine (iput_good ea cr A n c xs ⟨1, ml, 1 + ms⟩ w3 hX hn4 HIN.out).mono ?_
        rintro x w4 ⟨kk, hlead, v, rfl, hown, hb4⟩
        have hB4 := hB3.trans (hb4.mono hgs)
        obtain ⟨A4, c4, rfl, h5, h6, hY⟩ := own_shape hown
        have hle := putAt_len (x := ⟨1, ml, 1 + ms⟩) hlead.1
        have H25 := Lib.hid (ticks_put (k := kk) HP.out (pOk_put HIN.out hlead))
        have hY4 := hY.len
        have hl13 : (putAt xs kk ⟨1, ml, 1 + ms⟩).length ≤ 1099511627776 := by rw [hle, hX.len]; omega
        have hbx : Below w4.heap.size w4 (w4.alloc (.cells #[.int .i64 ea, .int .i64 cr, .slice A4 (putAt xs kk ⟨1, ml, 1 + ms⟩).length c4] 25)) := (by repeat (first | exact Below.refl _ _ | assumption | refine Below.setCell ?_ (by first | omega | (simp; done) | (simp; omega)) _ | refine Below.alloc ?_ (by first | omega | (simp; done) | (simp; omega)) _ | refine Below.drew ?_ | refine Below.drewN' ?_ _ | refine Below.trans ?_ (Below.mono (by assumption) (by first | omega | (simp; done) | (simp; omega)))))
        have hZ := Bk.new w4 25 #[.int .i64 ea, .int .i64 cr, .slice A4 (putAt xs kk ⟨1, ml, 1 + ms⟩).length c4]
        have HY := Lib.hid (Wts.step hY hbx)
        (try clear hP_c0); (try clear hP_f0)
        (try clear hP_c1); (try clear hP_f1)
        (try clear hP_c2); (try clear hP_f2)
        (try clear hP_lt)
        clear hP hb4 hown hY hle hlead hY4
        (try clear hZ_c0); (try clear hZ_f0)
        (try clear hZ_c1); (try clear hZ_f1)
        (try clear hZ_c2); (try clear hZ_f2)
        (try clear hZ_lt)
        have hZ_lt := hZ.lt; (try simp only [World.size_alloc] at hZ_lt)
        have hZ_c0 := hZ.cell 0; have hZ_f0 := hZ.frozen 0
        have hZ_c1 := hZ.cell 1; have hZ_f1 := hZ.frozen 1
        have hZ_c2 := hZ.cell 2; have hZ_f2 := hZ.frozen 2
        simp only [List.getElem?_toArray, List.getElem?_cons_zero, List.getElem?_cons_succ] at hZ_c0 hZ_c1 hZ_c2
        rw [HT.out] at H25
        generalize hU : ticks ea cr (putAt xs kk ⟨1, ml, 1 + ms⟩) = U at *
        have hii := fun w h => iticks_any ea cr A4 (putAt xs kk ⟨1, ml, 1 + ms⟩).length c4 (putAt xs kk ⟨1, ml, 1 + ms⟩) w h hl13 h5 h6
        rw [hU] at hii
        have HII := Lib.hid hii
        clear hii hU
        go_wp2_with fail
        refine (HII.out _ HY.out).mono ?_
        rintro x w5 ⟨rfl, hb5⟩
        have hB5 : Below w.heap.size w w5 := (hB4.alloc hB4.size _).trans (hb5.mono (by have := hB4.size; simp; omega))
        by_cases hU1 : U = -1
        · subst hU1
          go_wp2
          go_ret
          exact ⟨rfl, hB5⟩
        · have e4 : (U == -1) = false := by simpa using hU1
          have e5 : decide (T ≤ U) = true := by
            have := H25.out
            simp
            omega
          go_wp2
          go_ret
          exact ⟨rfl, hB5⟩

/-! ### THE ROW's STEP: WRITTEN OUT: LEAVE IT -/
set_option maxRecDepth 100000 in
theorem lifted (os : Os) (started : os.Started) (H : Type) (enc : TypeId × Value → H) :
    ReturnsInHanded {} Try.checked os 10 .any (Rows.fnPacerTicksPutSpec.pre6 enc Try.prog Try.f10 Rows.fnPacerTicksPutRow.domain false) (Rows.fnPacerTicksPutSpec.post enc Try.prog Try.f10 false true false false) := by
  refine returnsInHanded_of_change (C := Try.checked) own started (by kernel_rfl) Try.func10
    (ChangeSpec.witness6 (enc := enc) (C := Try.checked) false ⟨#[], #[.slice none 0 0, .slice none 0 0], []⟩ 8 (by kernel_rfl) (by kernel_rfl) (by kernel_rfl) (by kernel_rfl)) ?_
  intro W base args ds gs before hval0 hW hcnd _
  have hval : ∀ (j : Nat) t v, Try.f10.params[j]? = some t → args[j]? = some v → Value.okWide Try.prog W .any base t v := hval0
  have hW' := hW
  obtain ⟨p, q, hA0, hV, rfl, hfz, hnd⟩ := hW
  have hA : DataW.TrodAll enc Try.prog W 0 (fun _ => true) true Try.f10.params.toList args.toList ds p := hA0
  rw [Try.params10] at hA hval
  obtain ⟨v0, vs0, d0, ds0, p0, q0, hargs, rfl, rfl, h0, r0⟩ := trodAll_cons hA
  obtain ⟨v1, vs1, d1, ds1, p1, q1, rfl, rfl, rfl, h1, r1⟩ := trodAll_cons r0
  obtain ⟨rfl, rfl, rfl⟩ := trodAll_nil r1
  obtain rfl : args = #[v0, v1] := by cases args; simp_all
  obtain ⟨rfl, rfl⟩ := trodVars_none hV
  obtain ⟨a0, len0, cap0, rfl⟩ := okWide_slice Try.underlying22 (hval 0 22 v0 rfl rfl)
  have k0 := h0
  have lt0 : ∀ x ∈ p0, x.block < W.heap.size := by obtain ⟨m, hm⟩ := k0; exact DataW.trod_lt m _ _ _ hm
  obtain ⟨z0, w0⟩ : ∃ zs, IsRow .u8 W a0 len0 cap0 zs := by
    obtain ⟨fuel, hf⟩ := h0
    rcases open_ints Try.underlying22 Try.underlying5 (by kernel_rfl) hf with ⟨hcs, _⟩ | ⟨x, l, c, zs, hcs, _, hl, hm, hz, _, hcell, hwz⟩
    · simp [Value.cells] at hcs
      obtain ⟨rfl, rfl, rfl⟩ := hcs
      exact ⟨[], .inl ⟨rfl, rfl, rfl, rfl⟩⟩
    · simp [Value.cells] at hcs
      obtain ⟨rfl, rfl, rfl⟩ := hcs
      exact ⟨zs, .inr ⟨_, rfl, hl, hm, by simpa using hz, hcell, hwz⟩⟩
  obtain ⟨a1, len1, cap1, rfl⟩ := okWide_slice Try.underlying22 (hval 1 22 v1 rfl rfl)
  have k1 := h1
  have lt1 : ∀ x ∈ p1, x.block < W.heap.size := by obtain ⟨m, hm⟩ := k1; exact DataW.trod_lt m _ _ _ hm
  obtain ⟨z1, w1⟩ : ∃ zs, IsRow .u8 W a1 len1 cap1 zs := by
    obtain ⟨fuel, hf⟩ := h1
    rcases open_ints Try.underlying22 Try.underlying5 (by kernel_rfl) hf with ⟨hcs, _⟩ | ⟨x, l, c, zs, hcs, _, hl, hm, hz, _, hcell, hwz⟩
    · simp [Value.cells] at hcs
      obtain ⟨rfl, rfl, rfl⟩ := hcs
      exact ⟨[], .inl ⟨rfl, rfl, rfl, rfl⟩⟩
    · simp [Value.cells] at hcs
      obtain ⟨rfl, rfl, rfl⟩ := hcs
      exact ⟨zs, .inr ⟨_, rfl, hl, hm, by simpa using hz, hcell, hwz⟩⟩
  clear hA0 hval0
  refine (walk a0 len0 cap0 z0 a1 len1 cap1 z1 W w0 w1).mono fun e W' ⟨he, bel⟩ => ?_
  subst he
  exact ⟨_, rfl, _, _, _, [], _, [], hW', trodAll_mk1 (shut_bool Try.underlying4 _), (trodAll_cons_mk (Below.trod laidOut (by kernel_rfl) (of_decide_eq_true (by kernel_rfl)) k0 bel lt0) (trodAll_cons_mk (Below.trod laidOut (by kernel_rfl) (of_decide_eq_true (by kernel_rfl)) k1 bel lt1) trodAll_mk0)), rfl, bel.frame _, fun h => by cases h⟩

theorem over : Rows.fnPacerTicksPutRow.holds Try.pinned (OpenSpec.ofChange Rows.fnPacerTicksPutSpec) :=
  OpenClaim.holds_of_wide 10 Try.f10 rfl rfl rfl rfl rfl rfl rfl ⟨rfl, rfl, rfl, rfl, rfl⟩ rfl rfl rfl rfl rfl (by kernel_rfl) Try.func10 (by kernel_rfl)
    (of_decide_eq_true (by kernel_rfl)) (by unfold Func.isWrapper; first | (rw [if_pos (by decide +kernel)]; kernel_rfl) | (rw [if_neg (by decide +kernel)]; exact ⟨rfl, rfl⟩))
    (fun os started H enc _ => lifted os started H enc)

/--  THE STATEMENT  -/
theorem proved : Rows.FnPacerTicksPutSaid := over
#print axioms proved
end Go.Proofs.Ytilokgloocbbnaa.fnPacerTicksPut
