/-
  The statement FnClockWall: the law returns true for every input, and what was there before the call has not turned.
  No condition beyond the given statement.
-/
import Derived.Test.YtambjhapnhmmmaaRows
import Derived.WalkKit
import Derived.ProofKit
import Derived.OpenShut
import Derived.ShutString
import Derived.ChangeOld
import Derived.Below
import Derived.Test.YtambjhapnhmmmaaClock
import Derived.Test.YtambjhapnhmmmaaClockB
import Derived.Test.YtambjhapnhmmmaaClockC
namespace Go.Proofs.Ytambjhapnhmmmaa.fnClockWall
open Go.ChangeShapes Go.WideShapes Go.ChangeAt Go.RowKit
open Go.ChangeMaps (open_string shut_string)
set_option linter.unusedVariables false

theorem own : ownKnob Try.prog.godebug = none := by kernel_rfl
theorem laidOut : laidOutB Try.prog = true := by kernel_rfl

/-- WHAT THE WALK IS TOLD OF A SLICE OF INTEGERS THAT CAME IN: it is nil; or it leads to a row of 'cap' cells, the numbers 'zs' (the first 'len' are its elements, the rest its spare room), each fitting its kind. -/
def IsRow (k : IntKind) (w : World) (a : Option Addr) (len cap : Nat) (zs : List Int) : Prop :=
  (a = none ∧ len = 0 ∧ cap = 0 ∧ zs = []) ∨
  ∃ x, a = some x ∧ len ≤ cap ∧ cap ≤ maxLen ∧ zs.length = cap ∧ (∀ i, i < zs.length → w.cell? (x.add i) = some (.int k (zs.getD i 0))) ∧ ∀ n ∈ zs, (Lit.int k n).wf = true

theorem med_ge (b q c m : Int) (hc : 1 ≤ c) (hq : q = (b - m) * 1000 / c) : m ≤ b + -q * c / 1000 := by
  have h1 : q * c ≤ (b - m) * 1000 := by rw [hq]; exact Int.ediv_mul_le _ (by omega)
  have h2 : -q * c = -(q * c) := Int.neg_mul q c
  omega
theorem med_lt (b q c m : Int) (hc : 1 ≤ c) (hq : q = (b - m) * 1000 / c) : b + (-q - 1) * c / 1000 < m := by
  have h1 : (b - m) * 1000 < (q + 1) * c := by rw [hq]; exact Int.lt_ediv_add_one_mul_self _ (by omega)
  have h2 : (-q - 1) * c = -((q + 1) * c) := by rw [← Int.neg_mul]; congr 1; omega
  omega
theorem cmed_first {a b c m : Int} (h : WallOk a b c m) : m ≤ cmed a b c (cwallV a b c m) := by
  have := med_ge b _ c m h.1.2.2.2.2.1 rfl
  unfold cmed cwallV
  rw [show a - (b - m) * 1000 / c - a = -((b - m) * 1000 / c) from by omega]
  exact this
theorem cmed_before {a b c m : Int} (h : WallOk a b c m) : cmed a b c (cwallV a b c m - 1) < m := by
  have := med_lt b _ c m h.1.2.2.2.2.1 rfl
  unfold cmed cwallV
  rw [show a - (b - m) * 1000 / c - 1 - a = -((b - m) * 1000 / c) - 1 from by omega]
  exact this

/-! ### STEP 1: THE WALK: the Go text returns true, AND WRITES NOTHING THAT WAS THERE: 'Below w.heap.size w w'' (Derived/Below.lean: '.refl', '.alloc', '.drew', '.setCell' at a new block, '.trans'). Open each 'IsRow' by 'rcases' AHEAD of 'go_enter'; part every test ahead of the walk. -/
set_option maxHeartbeats 4000000 in
set_option maxRecDepth 100000 in
theorem walk (a0 : Option Addr) (len0 cap0 : Nat) (z0 : List Int) (w : World) (w0 : IsRow .u8 w a0 len0 cap0 z0) :
    Calls Try.prog 7 #[.slice a0 len0 cap0] w fun e w' => e = .returned (.bool true) ∧ Below w.heap.size w w' := by
  obtain ⟨hb, hnc, hc⟩ := bytes_of_row w0
  have hcm := hc
  unfold maxLen at hcm
  by_cases hbig : 1048576 < len0
  · have e1 : decide (1048576 < len0) = true := by simpa using hbig
    go_enter Try.func7, Try.ntmps7
    go_wp2
    go_ret
    exact ⟨rfl, Below.refl _ _⟩
  · have e1 : decide (1048576 < len0) = false := by simpa using hbig
    go_enter Try.func7, Try.ntmps7
    go_wp2_with fail
    refine (draw_cwall a0 len0 cap0 _ hb hnc hc).mono ?_
    rintro e w1 ⟨a, b, c, m, rfl, hbel⟩
    have s1 := hbel.size
    by_cases hok : WallOk a b c m
    · obtain ⟨b1, b2⟩ := cwallV_bd hok
      have m1 := cmed_first hok
      have m2 := cmed_before hok
      have hi := fun w => iwall_ok a b c m w hok
      have hs := fun w => swall_ok a b c m w hok
      have hmd := fun t w h0 h1 => cmedia_ok a b c t w hok.1 h0 h1
      have hmn := fun t w h0 => cmedia_no a b c t w hok.1 h0
      generalize cwallV a b c m = v at *
      have HI := Lib.hid hi
      have HS := Lib.hid hs
      have HD := Lib.hid hmd
      have HN := Lib.hid hmn
      clear hi hs hmd hmn
      go_wp2_with fail
      refine (HI.out _).mono ?_
      rintro e w2 ⟨rfl, hb2⟩
      obtain ⟨k2, f2⟩ := bcell hb2
      have s2 := hb2.size
      simp only [World.size_alloc] at k2 f2 s2
      go_wp2_with fail
      refine (HS.out _).mono ?_
      rintro e w3 ⟨rfl, hb3⟩
      obtain ⟨k3, f3⟩ := bcell hb3
      have s3 := hb3.size
      by_cases h0 : v < 0
      · have d0 : decide (v < 0) = true := by simpa using h0
        go_wp2
        go_ret
        exact ⟨rfl, (by repeat (first | exact Below.refl _ _ | assumption | refine Below.setCell ?_ (by first | omega | (simp; done) | (simp; omega)) _ | refine Below.alloc ?_ (by first | omega | (simp; done) | (simp; omega)) _ | refine Below.drew ?_ | refine Below.drewN' ?_ _ | refine Below.trans ?_ (Below.mono (by assumption) (by first | omega | (simp; done) | (simp; omega)))))⟩
      · have d0 : decide (v < 0) = false := by simpa using h0
        have h0 : 0 ≤ v := by omega
        by_cases h1 : 999999 < v
        · have d1 : decide (999999 < v) = true := by simpa using h1
          go_wp2
          go_ret
          exact ⟨rfl, (by repeat (first | exact Below.refl _ _ | assumption | refine Below.setCell ?_ (by first | omega | (simp; done) | (simp; omega)) _ | refine Below.alloc ?_ (by first | omega | (simp; done) | (simp; omega)) _ | refine Below.drew ?_ | refine Below.drewN' ?_ _ | refine Below.trans ?_ (Below.mono (by assumption) (by first | omega | (simp; done) | (simp; omega)))))⟩
        · have d1 : decide (999999 < v) = false := by simpa using h1
          have h1 : v ≤ 999999 := by omega
          have g1 : decide (m ≤ cmed a b c v) = true := by simpa using m1
          have g2 : decide (cmed a b c (v - 1) < m) = true := by simpa using m2
          have hk3 := ((Bk.new w1 40 #[.int .i64 a, .int .i64 b, .int .i64 c]).below hb2 (by simp)).below hb3 (by omega)
          have c0 := hk3.cell 0
          have c1 := hk3.cell 1
          have c2 := hk3.cell 2
          simp at c0 c1 c2
          clear k2 k3
          go_wp2_with fail
          refine (HD.out v _ h0 h1).mono ?_
          rintro e w4 ⟨rfl, hb4⟩
          have hk4 := hk3.below hb4 (by have := hk3.lt; omega)
          have q0 := hk4.cell 0
          have q1 := hk4.cell 1
          have q2 := hk4.cell 2
          simp at q0 q1 q2
          clear c0 c1 c2
          have s4 := hb4.size
          by_cases hv0 : v = 0
          · subst hv0
            go_wp2_with fail
            refine (HN.out _ _ (by omega)).mono ?_
            rintro e w5 ⟨rfl, hb5⟩
            go_wp2
            go_ret
            exact ⟨rfl, (by repeat (first | exact Below.refl _ _ | assumption | refine Below.setCell ?_ (by first | omega | (simp; done) | (simp; omega)) _ | refine Below.alloc ?_ (by first | omega | (simp; done) | (simp; omega)) _ | refine Below.drew ?_ | refine Below.drewN' ?_ _ | refine Below.trans ?_ (Below.mono (by assumption) (by first | omega | (simp; done) | (simp; omega)))))⟩
          · go_wp2_with fail
            refine (HD.out (v - 1) _ (by omega) (by omega)).mono ?_
            rintro e w5 ⟨rfl, hb5⟩
            go_wp2
            go_ret
            exact ⟨rfl, (by repeat (first | exact Below.refl _ _ | assumption | refine Below.setCell ?_ (by first | omega | (simp; done) | (simp; omega)) _ | refine Below.alloc ?_ (by first | omega | (simp; done) | (simp; omega)) _ | refine Below.drew ?_ | refine Below.drewN' ?_ _ | refine Below.trans ?_ (Below.mono (by assumption) (by first | omega | (simp; done) | (simp; omega)))))⟩
    · go_wp2_with fail
      refine (iwall_no a b c m _ hok).mono ?_
      rintro e w2 ⟨rfl, hb2⟩
      obtain ⟨k2, f2⟩ := bcell hb2
      have s2 := hb2.size
      simp only [World.size_alloc] at k2 f2 s2
      go_wp2_with fail
      refine (swall_no a b c m _ hok).mono ?_
      rintro e w3 ⟨rfl, hb3⟩
      go_wp2
      go_ret
      exact ⟨rfl, (by repeat (first | exact Below.refl _ _ | assumption | refine Below.setCell ?_ (by first | omega | (simp; done) | (simp; omega)) _ | refine Below.alloc ?_ (by first | omega | (simp; done) | (simp; omega)) _ | refine Below.drew ?_ | refine Below.drewN' ?_ _ | refine Below.trans ?_ (Below.mono (by assumption) (by first | omega | (simp; done) | (simp; omega)))))⟩

/-! ### THE ROW's STEP: WRITTEN OUT: LEAVE IT -/
set_option maxRecDepth 100000 in
theorem lifted (os : Os) (started : os.Started) (H : Type) (enc : TypeId × Value → H) :
    ReturnsInHanded {} Try.checked os 7 .any (Rows.fnClockWallSpec.pre6 enc Try.prog Try.f7 Rows.fnClockWallRow.domain false) (Rows.fnClockWallSpec.post enc Try.prog Try.f7 false true false false) := by
  refine returnsInHanded_of_change (C := Try.checked) own started (by kernel_rfl) Try.func7
    (ChangeSpec.witness6 (enc := enc) (C := Try.checked) false ⟨#[], #[.slice none 0 0], []⟩ 8 (by kernel_rfl) (by kernel_rfl) (by kernel_rfl) (by kernel_rfl)) ?_
  intro W base args ds gs before hval0 hW hcnd _
  have hval : ∀ (j : Nat) t v, Try.f7.params[j]? = some t → args[j]? = some v → Value.okWide Try.prog W .any base t v := hval0
  have hW' := hW
  obtain ⟨p, q, hA0, hV, rfl, hfz, hnd⟩ := hW
  have hA : DataW.TrodAll enc Try.prog W 0 (fun _ => true) true Try.f7.params.toList args.toList ds p := hA0
  rw [Try.params7] at hA hval
  obtain ⟨v0, vs0, d0, ds0, p0, q0, hargs, rfl, rfl, h0, r0⟩ := trodAll_cons hA
  obtain ⟨rfl, rfl, rfl⟩ := trodAll_nil r0
  obtain rfl : args = #[v0] := by cases args; simp_all
  obtain ⟨rfl, rfl⟩ := trodVars_none hV
  obtain ⟨a0, len0, cap0, rfl⟩ := okWide_slice Try.underlying22 (hval 0 22 v0 rfl rfl)
  have k0 := h0
  have lt0 : ∀ x ∈ p0, x.block < W.heap.size := by obtain ⟨m, hm⟩ := k0; exact DataW.trod_lt m _ _ _ hm
  obtain ⟨z0, w0⟩ : ∃ zs, IsRow .u8 W a0 len0 cap0 zs := by
    obtain ⟨fuel, hf⟩ := h0
    rcases open_ints Try.underlying22 Try.underlying5 (by kernel_rfl) hf with ⟨hcs, _⟩ | ⟨x, l, c, zs, hcs, _, hl, hm, hz, _, hcell, hwz⟩
    · simp [Value.cells] at hcs
      obtain ⟨rfl, rfl, rfl⟩ := hcs
      exact ⟨[], .inl ⟨rfl, rfl, rfl, rfl⟩⟩
    · simp [Value.cells] at hcs
      obtain ⟨rfl, rfl, rfl⟩ := hcs
      exact ⟨zs, .inr ⟨_, rfl, hl, hm, by simpa using hz, hcell, hwz⟩⟩
  clear hA0 hval0
  refine (walk a0 len0 cap0 z0 W w0).mono fun e W' ⟨he, bel⟩ => ?_
  subst he
  exact ⟨_, rfl, _, _, _, [], _, [], hW', trodAll_mk1 (shut_bool Try.underlying4 _), (trodAll_cons_mk (Below.trod laidOut (by kernel_rfl) (of_decide_eq_true (by kernel_rfl)) k0 bel lt0) trodAll_mk0), rfl, bel.frame _, fun h => by cases h⟩

theorem over : Rows.fnClockWallRow.holds Try.pinned (OpenSpec.ofChange Rows.fnClockWallSpec) :=
  OpenClaim.holds_of_wide 7 Try.f7 rfl rfl rfl rfl rfl rfl rfl ⟨rfl, rfl, rfl, rfl, rfl⟩ rfl rfl rfl rfl rfl (by kernel_rfl) Try.func7 (by kernel_rfl)
    (of_decide_eq_true (by kernel_rfl)) (by unfold Func.isWrapper; first | (rw [if_pos (by decide +kernel)]; kernel_rfl) | (rw [if_neg (by decide +kernel)]; exact ⟨rfl, rfl⟩))
    (fun os started H enc _ => lifted os started H enc)

/--  THE STATEMENT  -/
theorem proved : Rows.FnClockWallSaid := over
#print axioms proved
end Go.Proofs.Ytambjhapnhmmmaa.fnClockWall
