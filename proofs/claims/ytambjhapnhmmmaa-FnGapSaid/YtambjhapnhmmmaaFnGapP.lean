/-
  The statement FnGap: the law returns true for every input, and what was there before the call has not turned.
  No condition beyond the given statement.
-/
import Derived.Test.YtambjhapnhmmmaaRows
import Derived.WalkKit
import Derived.ProofKit
import Derived.OpenShut
import Derived.ShutString
import Derived.ChangeOld
import Derived.Below
import Derived.Test.YtambjhapnhmmmaaClock
import Derived.Test.YtambjhapnhmmmaaClockB
import Derived.Test.YtambjhapnhmmmaaClockC
import Derived.Test.YtambjhapnhmmmaaClockD
namespace Go.Proofs.Ytambjhapnhmmmaa.fnGap
open Go.ChangeShapes Go.WideShapes Go.ChangeAt Go.RowKit
open Go.ChangeMaps (open_string shut_string)
set_option linter.unusedVariables false

theorem own : ownKnob Try.prog.godebug = none := by kernel_rfl
theorem laidOut : laidOutB Try.prog = true := by kernel_rfl

/-- WHAT THE WALK IS TOLD OF A SLICE OF INTEGERS THAT CAME IN: it is nil; or it leads to a row of 'cap' cells, the numbers 'zs' (the first 'len' are its elements, the rest its spare room), each fitting its kind. -/
def IsRow (k : IntKind) (w : World) (a : Option Addr) (len cap : Nat) (zs : List Int) : Prop :=
  (a = none ∧ len = 0 ∧ cap = 0 ∧ zs = []) ∨
  ∃ x, a = some x ∧ len ≤ cap ∧ cap ≤ maxLen ∧ zs.length = cap ∧ (∀ i, i < zs.length → w.cell? (x.add i) = some (.int k (zs.getD i 0))) ∧ ∀ n ∈ zs, (Lit.int k n).wf = true


/-! ### STEP 1: THE WALK: the Go text returns true, AND WRITES NOTHING THAT WAS THERE: 'Below w.heap.size w w'' (Derived/Below.lean: '.refl', '.alloc', '.drew', '.setCell' at a new block, '.trans'). Open each 'IsRow' by 'rcases' AHEAD of 'go_enter'; part every test ahead of the walk. -/
set_option maxHeartbeats 4000000 in
set_option maxRecDepth 100000 in
theorem walk (a0 : Option Addr) (len0 cap0 : Nat) (z0 : List Int) (w : World) (w0 : IsRow .u8 w a0 len0 cap0 z0) :
    Calls Try.prog 8 #[.slice a0 len0 cap0] w fun e w' => e = .returned (.bool true) ∧ Below w.heap.size w w' := by
  obtain ⟨hb, hnc, hc⟩ := bytes_of_row w0
  have hcm := hc
  unfold maxLen at hcm
  by_cases hbig : 1048576 < len0
  · have e1 : decide (1048576 < len0) = true := by simpa using hbig
    go_enter Try.func8, Try.ntmps8
    go_wp2
    go_ret
    exact ⟨rfl, Below.refl _ _⟩
  · have e1 : decide (1048576 < len0) = false := by simpa using hbig
    go_enter Try.func8, Try.ntmps8
    go_wp2_with fail
    refine (draw_cgap a0 len0 cap0 _ hb hnc hc).mono ?_
    rintro e w1 ⟨a, b, c, m, a', b', c', m', rfl, hbel⟩
    have s1 := hbel.size
    have hA := (Bk.new w1 40 #[.int .i64 a, .int .i64 b, .int .i64 c]).alloc (.cells #[.int .i64 a', .int .i64 b', .int .i64 c'] 40)
    have hB := Bk.new (w1.alloc (.cells #[.int .i64 a, .int .i64 b, .int .i64 c] 40)) 40 #[.int .i64 a', .int .i64 b', .int .i64 c']
    rw [World.size_alloc] at hB
    by_cases hok : WallOk a b c m ∧ WallOk a' b' c' m'
    · obtain ⟨h1, h2⟩ := hok
      obtain ⟨b1, b2⟩ := cwallV_bd h1
      obtain ⟨b3, b4⟩ := cwallV_bd h2
      have hi := fun w => implgap_ok a b c m a' b' c' m' w h1 h2
      have hs := fun w => specgap_ok a b c m a' b' c' m' w h1 h2
      have hx := fun w => iwall_ok a b c m w h1
      have hy := fun w => iwall_ok a' b' c' m' w h2
      have hz := fun w => implgap_ok a' b' c' m' a b c m w h2 h1
      have hn := fun w => implgap_ok a b c m a b c m w h1 h1
      generalize cwallV a b c m = u at *
      generalize cwallV a' b' c' m' = v at *
      have HI := Lib.hid hi
      have HS := Lib.hid hs
      have HX := Lib.hid hx
      have HY := Lib.hid hy
      have HZ := Lib.hid hz
      have HN := Lib.hid hn
      clear hi hs hx hy hz hn
      go_wp2_with fail
      refine (HI.out _).mono ?_
      rintro e w2 ⟨rfl, hb2⟩
      have hb12 : Below w.heap.size w w2 := (by repeat (first | exact Below.refl _ _ | assumption | refine Below.setCell ?_ (by first | omega | (simp; done) | (simp; omega)) _ | refine Below.alloc ?_ (by first | omega | (simp; done) | (simp; omega)) _ | refine Below.drew ?_ | refine Below.drewN' ?_ _ | refine Below.trans ?_ (Below.mono (by assumption) (by first | omega | (simp; done) | (simp; omega)))))
      have hA2 := hA.below hb2 (by simp; omega)
      have hB2 := hB.below hb2 (by simp)
      clear hA hB hb2 hbel
      have p0 := hA2.cell 0
      have p1 := hA2.cell 1
      have p2 := hA2.cell 2
      have q0 := hB2.cell 0
      have q1 := hB2.cell 1
      have q2 := hB2.cell 2
      simp at p0 p1 p2 q0 q1 q2
      go_wp2_with fail
      refine (HS.out _).mono ?_
      rintro e w3 ⟨rfl, hb3⟩
      have hA3 := hA2.below hb3 hA2.lt
      have hB3 := hB2.below hb3 hB2.lt
      have hb13 : Below w.heap.size w w3 := hb12.trans (hb3.mono hb12.size)
      clear hA2 hB2 hb3 hb12 p0 p1 p2 q0 q1 q2
      have p0 := hA3.cell 0
      have p1 := hA3.cell 1
      have p2 := hA3.cell 2
      have q0 := hB3.cell 0
      have q1 := hB3.cell 1
      have q2 := hB3.cell 2
      simp at p0 p1 p2 q0 q1 q2
      go_wp2_with fail
      refine (HX.out _).mono ?_
      rintro e w4 ⟨rfl, hb4⟩
      have hA4 := hA3.below hb4 hA3.lt
      have hB4 := hB3.below hb4 hB3.lt
      have hb14 : Below w.heap.size w w4 := hb13.trans (hb4.mono hb13.size)
      clear hA3 hB3 hb4 hb13 p0 p1 p2 q0 q1 q2
      have p0 := hA4.cell 0
      have p1 := hA4.cell 1
      have p2 := hA4.cell 2
      have q0 := hB4.cell 0
      have q1 := hB4.cell 1
      have q2 := hB4.cell 2
      simp at p0 p1 p2 q0 q1 q2
      go_wp2_with fail
      refine (HY.out _).mono ?_
      rintro e w5 ⟨rfl, hb5⟩
      have hA5 := hA4.below hb5 hA4.lt
      have hB5 := hB4.below hb5 hB4.lt
      have hb15 : Below w.heap.size w w5 := hb14.trans (hb5.mono hb14.size)
      clear hA4 hB4 hb5 hb14 p0 p1 p2 q0 q1 q2
      have p0 := hA5.cell 0
      have p1 := hA5.cell 1
      have p2 := hA5.cell 2
      have q0 := hB5.cell 0
      have q1 := hB5.cell 1
      have q2 := hB5.cell 2
      simp at p0 p1 p2 q0 q1 q2
      go_wp2_with fail
      refine (HZ.out _).mono ?_
      rintro e w6 ⟨rfl, hb6⟩
      have hA6 := hA5.below hb6 hA5.lt
      have hB6 := hB5.below hb6 hB5.lt
      have hb16 : Below w.heap.size w w6 := hb15.trans (hb6.mono hb15.size)
      clear hA5 hB5 hb6 hb15 p0 p1 p2 q0 q1 q2
      have p0 := hA6.cell 0
      have p1 := hA6.cell 1
      have p2 := hA6.cell 2
      have q0 := hB6.cell 0
      have q1 := hB6.cell 1
      have q2 := hB6.cell 2
      simp at p0 p1 p2 q0 q1 q2
      have g1 : (u - v == u - v) = true := by simp
      have g2 : (v - u == -(u - v)) = true := by simp; omega
      go_wp2
      go_ret
      exact ⟨rfl, hb16⟩
    · go_wp2_with fail
      refine (implgap_no a b c m a' b' c' m' _ hok).mono ?_
      rintro e w2 ⟨rfl, hb2⟩
      have hb12 : Below w.heap.size w w2 := (by repeat (first | exact Below.refl _ _ | assumption | refine Below.setCell ?_ (by first | omega | (simp; done) | (simp; omega)) _ | refine Below.alloc ?_ (by first | omega | (simp; done) | (simp; omega)) _ | refine Below.drew ?_ | refine Below.drewN' ?_ _ | refine Below.trans ?_ (Below.mono (by assumption) (by first | omega | (simp; done) | (simp; omega)))))
      have hA2 := hA.below hb2 (by simp; omega)
      have hB2 := hB.below hb2 (by simp)
      clear hA hB hb2 hbel
      have p0 := hA2.cell 0
      have p1 := hA2.cell 1
      have p2 := hA2.cell 2
      have q0 := hB2.cell 0
      have q1 := hB2.cell 1
      have q2 := hB2.cell 2
      simp at p0 p1 p2 q0 q1 q2
      go_wp2_with fail
      refine (specgap_no a b c m a' b' c' m' _ hok).mono ?_
      rintro e w3 ⟨rfl, hb3⟩
      go_wp2
      go_ret
      exact ⟨rfl, hb12.trans (hb3.mono hb12.size)⟩

/-! ### THE ROW's STEP: WRITTEN OUT: LEAVE IT -/
set_option maxRecDepth 100000 in
theorem lifted (os : Os) (started : os.Started) (H : Type) (enc : TypeId × Value → H) :
    ReturnsInHanded {} Try.checked os 8 .any (Rows.fnGapSpec.pre6 enc Try.prog Try.f8 Rows.fnGapRow.domain false) (Rows.fnGapSpec.post enc Try.prog Try.f8 false true false false) := by
  refine returnsInHanded_of_change (C := Try.checked) own started (by kernel_rfl) Try.func8
    (ChangeSpec.witness6 (enc := enc) (C := Try.checked) false ⟨#[], #[.slice none 0 0], []⟩ 8 (by kernel_rfl) (by kernel_rfl) (by kernel_rfl) (by kernel_rfl)) ?_
  intro W base args ds gs before hval0 hW hcnd _
  have hval : ∀ (j : Nat) t v, Try.f8.params[j]? = some t → args[j]? = some v → Value.okWide Try.prog W .any base t v := hval0
  have hW' := hW
  obtain ⟨p, q, hA0, hV, rfl, hfz, hnd⟩ := hW
  have hA : DataW.TrodAll enc Try.prog W 0 (fun _ => true) true Try.f8.params.toList args.toList ds p := hA0
  rw [Try.params8] at hA hval
  obtain ⟨v0, vs0, d0, ds0, p0, q0, hargs, rfl, rfl, h0, r0⟩ := trodAll_cons hA
  obtain ⟨rfl, rfl, rfl⟩ := trodAll_nil r0
  obtain rfl : args = #[v0] := by cases args; simp_all
  obtain ⟨rfl, rfl⟩ := trodVars_none hV
  obtain ⟨a0, len0, cap0, rfl⟩ := okWide_slice Try.underlying22 (hval 0 22 v0 rfl rfl)
  have k0 := h0
  have lt0 : ∀ x ∈ p0, x.block < W.heap.size := by obtain ⟨m, hm⟩ := k0; exact DataW.trod_lt m _ _ _ hm
  obtain ⟨z0, w0⟩ : ∃ zs, IsRow .u8 W a0 len0 cap0 zs := by
    obtain ⟨fuel, hf⟩ := h0
    rcases open_ints Try.underlying22 Try.underlying5 (by kernel_rfl) hf with ⟨hcs, _⟩ | ⟨x, l, c, zs, hcs, _, hl, hm, hz, _, hcell, hwz⟩
    · simp [Value.cells] at hcs
      obtain ⟨rfl, rfl, rfl⟩ := hcs
      exact ⟨[], .inl ⟨rfl, rfl, rfl, rfl⟩⟩
    · simp [Value.cells] at hcs
      obtain ⟨rfl, rfl, rfl⟩ := hcs
      exact ⟨zs, .inr ⟨_, rfl, hl, hm, by simpa using hz, hcell, hwz⟩⟩
  clear hA0 hval0
  refine (walk a0 len0 cap0 z0 W w0).mono fun e W' ⟨he, bel⟩ => ?_
  subst he
  exact ⟨_, rfl, _, _, _, [], _, [], hW', trodAll_mk1 (shut_bool Try.underlying4 _), (trodAll_cons_mk (Below.trod laidOut (by kernel_rfl) (of_decide_eq_true (by kernel_rfl)) k0 bel lt0) trodAll_mk0), rfl, bel.frame _, fun h => by cases h⟩

theorem over : Rows.fnGapRow.holds Try.pinned (OpenSpec.ofChange Rows.fnGapSpec) :=
  OpenClaim.holds_of_wide 8 Try.f8 rfl rfl rfl rfl rfl rfl rfl ⟨rfl, rfl, rfl, rfl, rfl⟩ rfl rfl rfl rfl rfl (by kernel_rfl) Try.func8 (by kernel_rfl)
    (of_decide_eq_true (by kernel_rfl)) (by unfold Func.isWrapper; first | (rw [if_pos (by decide +kernel)]; kernel_rfl) | (rw [if_neg (by decide +kernel)]; exact ⟨rfl, rfl⟩))
    (fun os started H enc _ => lifted os started H enc)

/--  THE STATEMENT  -/
theorem proved : Rows.FnGapSaid := over
#print axioms proved
end Go.Proofs.Ytambjhapnhmmmaa.fnGap
