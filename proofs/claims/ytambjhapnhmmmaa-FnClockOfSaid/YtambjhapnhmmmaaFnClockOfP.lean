/-
  The statement FnClockOf: the law returns true for every input, and what was there before the call has not turned.
  No condition beyond the given statement.
-/
import Derived.Test.YtambjhapnhmmmaaRows
import Derived.WalkKit
import Derived.ProofKit
import Derived.OpenShut
import Derived.ShutString
import Derived.ChangeOld
import Derived.Below
import Derived.Test.YtambjhapnhmmmaaClock
import Derived.Test.YtambjhapnhmmmaaClockB
import Derived.Test.YtambjhapnhmmmaaClockE
import Derived.Test.YtambjhapnhmmmaaClockF
import Derived.Test.YtambjhapnhmmmaaClockG
namespace Go.Proofs.Ytambjhapnhmmmaa.fnClockOf
open Go.ChangeShapes Go.WideShapes Go.ChangeAt Go.RowKit
open Go.ChangeMaps (open_string shut_string)
set_option linter.unusedVariables false

theorem own : ownKnob Try.prog.godebug = none := by kernel_rfl
theorem laidOut : laidOutB Try.prog = true := by kernel_rfl

/-- WHAT THE WALK IS TOLD OF A SLICE OF INTEGERS THAT CAME IN: it is nil; or it leads to a row of 'cap' cells, the numbers 'zs' (the first 'len' are its elements, the rest its spare room), each fitting its kind. -/
def IsRow (k : IntKind) (w : World) (a : Option Addr) (len cap : Nat) (zs : List Int) : Prop :=
  (a = none ∧ len = 0 ∧ cap = 0 ∧ zs = []) ∨
  ∃ x, a = some x ∧ len ≤ cap ∧ cap ≤ maxLen ∧ zs.length = cap ∧ (∀ i, i < zs.length → w.cell? (x.add i) = some (.int k (zs.getD i 0))) ∧ ∀ n ∈ zs, (Lit.int k n).wf = true

theorem of_media {wa ma wb mb : Int} (h : OfOk wa ma wb mb) : cmed wa ma (rateOf wa ma wb mb) wa = ma ∧ cmed wa ma (rateOf wa ma wb mb) wb ≤ mb := by
  have h0 := h.1
  obtain ⟨h1, h2, h3, h4, h5, h6, h7, h8, h9, h10⟩ := h.1
  unfold cmed rateOf
  constructor
  · rw [Int.sub_self, Int.zero_mul]; omega
  · have := Int.mul_ediv_self_le (x := 1000 * (mb - ma)) (k := wb - wa) (by omega)
    omega

/-! ### STEP 1: THE WALK: the Go text returns true, AND WRITES NOTHING THAT WAS THERE: 'Below w.heap.size w w'' (Derived/Below.lean: '.refl', '.alloc', '.drew', '.setCell' at a new block, '.trans'). Open each 'IsRow' by 'rcases' AHEAD of 'go_enter'; part every test ahead of the walk. -/
set_option maxHeartbeats 4000000 in
set_option maxRecDepth 100000 in
theorem walk (a0 : Option Addr) (len0 cap0 : Nat) (z0 : List Int) (w : World) (w0 : IsRow .u8 w a0 len0 cap0 z0) :
    Calls Try.prog 5 #[.slice a0 len0 cap0] w fun e w' => e = .returned (.bool true) ∧ Below w.heap.size w w' := by
  obtain ⟨hb, hnc, hc⟩ := bytes_of_row w0
  have hcm := hc
  unfold maxLen at hcm
  by_cases hbig : 1048576 < len0
  · have e1 : decide (1048576 < len0) = true := by simpa using hbig
    go_enter Try.func5, Try.ntmps5
    go_wp2
    go_ret
    exact ⟨rfl, Below.refl _ _⟩
  · have e1 : decide (1048576 < len0) = false := by simpa using hbig
    go_enter Try.func5, Try.ntmps5
    go_wp2_with fail
    refine (draw_of a0 len0 cap0 _ hb hnc hc).mono ?_
    rintro e w1 ⟨wa, ma, wb, mb, rfl, hbel⟩
    have s1 := hbel.size
    by_cases hok : OfOk wa ma wb mb
    · obtain ⟨m1, m2⟩ := of_media hok
      have hi := fun w => iof_ok wa ma wb mb w hok
      have hs := fun w => sof_ok wa ma wb mb w hok
      have hcl := (ofOk_clock hok.1 rfl).2 hok
      have hmd := fun t w h0 h1 => cmedia_ok wa ma (rateOf wa ma wb mb) t w hcl h0 h1
      obtain ⟨t1, t2, t3, t4, t5, t6, t7, t8, t9, t10⟩ := hok.1
      have r1 := hok.2.1
      clear hok hcl
      generalize rateOf wa ma wb mb = rt at *
      have HI := Lib.hid hi
      have HS := Lib.hid hs
      have HD := Lib.hid hmd
      clear hi hs hmd
      have g1 : (cmed wa ma rt wa == ma) = true := by simpa using m1
      have g2 : decide (cmed wa ma rt wb ≤ mb) = true := by simpa using m2
      have g3 : decide (1 ≤ rt) = true := by simpa using r1
      clear m1 m2
      go_wp2_with fail
      refine (HI.out _).mono ?_
      rintro e w2 ⟨rfl, hb2⟩
      have s2 := hb2.size
      have hA := Bk.new w2 40 #[.int .i64 wa, .int .i64 ma, .int .i64 rt]
      go_wp2_with fail
      refine (HS.out _).mono ?_
      rintro e w3 ⟨rfl, hb3⟩
      have hA3 := (hA.below hb3 (by simp)).alloc (.cells #[.int .i64 wa, .int .i64 ma, .int .i64 rt] 40)
      have hB3 : Below w.heap.size w w3 := (by repeat (first | exact Below.refl _ _ | assumption | refine Below.setCell ?_ (by first | omega | (simp; done) | (simp; omega)) _ | refine Below.alloc ?_ (by first | omega | (simp; done) | (simp; omega)) _ | refine Below.drew ?_ | refine Below.drewN' ?_ _ | refine Below.trans ?_ (Below.mono (by assumption) (by first | omega | (simp; done) | (simp; omega)))))
      have s3 := hB3.size
      have l3 := (hA.below hb3 (by simp)).lt
      have c0 := hA3.cell 0
      have c1 := hA3.cell 1
      have c2 := hA3.cell 2
      simp only [List.getElem?_toArray, List.getElem?_cons_zero, List.getElem?_cons_succ] at c0 c1 c2
      go_wp2_with fail
      refine (HD.out wa _ t1 t2).mono ?_
      rintro e w4 ⟨rfl, hb4⟩
      have hA4 := hA3.below hb4 hA3.lt
      have hB4 : Below w.heap.size w w4 := (by repeat (first | exact Below.refl _ _ | assumption | refine Below.setCell ?_ (by first | omega | (simp; done) | (simp; omega)) _ | refine Below.alloc ?_ (by first | omega | (simp; done) | (simp; omega)) _ | refine Below.drew ?_ | refine Below.drewN' ?_ _ | refine Below.trans ?_ (Below.mono (by assumption) (by first | omega | (simp; done) | (simp; omega)))))
      have s4 := hB4.size
      have c0 := hA4.cell 0
      have c1 := hA4.cell 1
      have c2 := hA4.cell 2
      simp at c0 c1 c2
      go_wp2_with fail
      refine (HD.out wb _ t5 t6).mono ?_
      rintro e w5 ⟨rfl, hb5⟩
      have hA5 := hA4.below hb5 hA4.lt
      have hB5 : Below w.heap.size w w5 := (by repeat (first | exact Below.refl _ _ | assumption | refine Below.setCell ?_ (by first | omega | (simp; done) | (simp; omega)) _ | refine Below.alloc ?_ (by first | omega | (simp; done) | (simp; omega)) _ | refine Below.drew ?_ | refine Below.drewN' ?_ _ | refine Below.trans ?_ (Below.mono (by assumption) (by first | omega | (simp; done) | (simp; omega)))))
      have c2 := hA5.cell 2
      simp at c2
      go_wp2
      go_ret
      exact ⟨rfl, hB5⟩
    · go_wp2_with fail
      refine (iof_no wa ma wb mb _ hok).mono ?_
      rintro e w2 ⟨rfl, hb2⟩
      have s2 := hb2.size
      have hA := Bk.new w2 40 #[.int .i64 0, .int .i64 0, .int .i64 0]
      go_wp2_with fail
      refine (sof_no wa ma wb mb _ hok).mono ?_
      rintro e w3 ⟨rfl, hb3⟩
      have hA3 := hA.below hb3 (by simp)
      have c0 := hA3.cell 0
      have c1 := hA3.cell 1
      have c2 := hA3.cell 2
      simp at c0 c1 c2
      have l3 := hA3.lt
      go_wp2
      go_ret
      exact ⟨rfl, (by repeat (first | exact Below.refl _ _ | assumption | refine Below.setCell ?_ (by first | omega | (simp; done) | (simp; omega)) _ | refine Below.alloc ?_ (by first | omega | (simp; done) | (simp; omega)) _ | refine Below.drew ?_ | refine Below.drewN' ?_ _ | refine Below.trans ?_ (Below.mono (by assumption) (by first | omega | (simp; done) | (simp; omega)))))⟩

/-! ### THE ROW's STEP: WRITTEN OUT: LEAVE IT -/
set_option maxRecDepth 100000 in
theorem lifted (os : Os) (started : os.Started) (H : Type) (enc : TypeId × Value → H) :
    ReturnsInHanded {} Try.checked os 5 .any (Rows.fnClockOfSpec.pre6 enc Try.prog Try.f5 Rows.fnClockOfRow.domain false) (Rows.fnClockOfSpec.post enc Try.prog Try.f5 false true false false) := by
  refine returnsInHanded_of_change (C := Try.checked) own started (by kernel_rfl) Try.func5
    (ChangeSpec.witness6 (enc := enc) (C := Try.checked) false ⟨#[], #[.slice none 0 0], []⟩ 8 (by kernel_rfl) (by kernel_rfl) (by kernel_rfl) (by kernel_rfl)) ?_
  intro W base args ds gs before hval0 hW hcnd _
  have hval : ∀ (j : Nat) t v, Try.f5.params[j]? = some t → args[j]? = some v → Value.okWide Try.prog W .any base t v := hval0
  have hW' := hW
  obtain ⟨p, q, hA0, hV, rfl, hfz, hnd⟩ := hW
  have hA : DataW.TrodAll enc Try.prog W 0 (fun _ => true) true Try.f5.params.toList args.toList ds p := hA0
  rw [Try.params5] at hA hval
  obtain ⟨v0, vs0, d0, ds0, p0, q0, hargs, rfl, rfl, h0, r0⟩ := trodAll_cons hA
  obtain ⟨rfl, rfl, rfl⟩ := trodAll_nil r0
  obtain rfl : args = #[v0] := by cases args; simp_all
  obtain ⟨rfl, rfl⟩ := trodVars_none hV
  obtain ⟨a0, len0, cap0, rfl⟩ := okWide_slice Try.underlying22 (hval 0 22 v0 rfl rfl)
  have k0 := h0
  have lt0 : ∀ x ∈ p0, x.block < W.heap.size := by obtain ⟨m, hm⟩ := k0; exact DataW.trod_lt m _ _ _ hm
  obtain ⟨z0, w0⟩ : ∃ zs, IsRow .u8 W a0 len0 cap0 zs := by
    obtain ⟨fuel, hf⟩ := h0
    rcases open_ints Try.underlying22 Try.underlying5 (by kernel_rfl) hf with ⟨hcs, _⟩ | ⟨x, l, c, zs, hcs, _, hl, hm, hz, _, hcell, hwz⟩
    · simp [Value.cells] at hcs
      obtain ⟨rfl, rfl, rfl⟩ := hcs
      exact ⟨[], .inl ⟨rfl, rfl, rfl, rfl⟩⟩
    · simp [Value.cells] at hcs
      obtain ⟨rfl, rfl, rfl⟩ := hcs
      exact ⟨zs, .inr ⟨_, rfl, hl, hm, by simpa using hz, hcell, hwz⟩⟩
  clear hA0 hval0
  refine (walk a0 len0 cap0 z0 W w0).mono fun e W' ⟨he, bel⟩ => ?_
  subst he
  exact ⟨_, rfl, _, _, _, [], _, [], hW', trodAll_mk1 (shut_bool Try.underlying4 _), (trodAll_cons_mk (Below.trod laidOut (by kernel_rfl) (of_decide_eq_true (by kernel_rfl)) k0 bel lt0) trodAll_mk0), rfl, bel.frame _, fun h => by cases h⟩

theorem over : Rows.fnClockOfRow.holds Try.pinned (OpenSpec.ofChange Rows.fnClockOfSpec) :=
  OpenClaim.holds_of_wide 5 Try.f5 rfl rfl rfl rfl rfl rfl rfl ⟨rfl, rfl, rfl, rfl, rfl⟩ rfl rfl rfl rfl rfl (by kernel_rfl) Try.func5 (by kernel_rfl)
    (of_decide_eq_true (by kernel_rfl)) (by unfold Func.isWrapper; first | (rw [if_pos (by decide +kernel)]; kernel_rfl) | (rw [if_neg (by decide +kernel)]; exact ⟨rfl, rfl⟩))
    (fun os started H enc _ => lifted os started H enc)

/--  THE STATEMENT  -/
theorem proved : Rows.FnClockOfSaid := over
#print axioms proved
end Go.Proofs.Ytambjhapnhmmmaa.fnClockOf
