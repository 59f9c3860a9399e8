/-
  Stats: the conversion and the comparison of the exact law.
  No condition.
-/
import Derived.Test.YtambjhapnhmmmaaRows
import Derived.Test.YtambjhapnhmmmaaLib
namespace Go.Proofs.Ytambjhapnhmmmaa
open Go.RowKit
set_option linter.unusedVariables false
set_option linter.unusedSimpArgs false

theorem toSt_any (a b c d e : Int) (w : World) :
    Calls Try.prog 19 #[.agg #[.int .i64 a, .int .i64 b, .int .i64 c, .int .i64 d, .int .i64 e]] w fun x w' => x = .returned (.agg #[.int .i64 a, .int .i64 b, .int .i64 c, .int .i64 d, .int .i64 e]) ∧ Below w.heap.size w w' := by
  go_enter Try.func19, Try.ntmps19
  go_wp2
  refine ⟨rfl, ?_⟩
  apply Exists.intro
  apply And.intro
  · simp [results, Try.results19, go_sem]; exact rfl
  · exact ⟨rfl, (by repeat (first | exact Below.refl _ _ | assumption | refine Below.setCell ?_ (by first | omega | (simp; done) | (simp; omega)) _ | refine Below.alloc ?_ (by first | omega | (simp; done) | (simp; omega)) _ | refine Below.drew ?_ | refine Below.drewN' ?_ _ | refine Below.trans ?_ (Below.mono (by assumption) (by first | omega | (simp; done) | (simp; omega)))))⟩
theorem eqSt_same (a b c d e : Int) (w : World) :
    Calls Try.prog 21 #[.agg #[.int .i64 a, .int .i64 b, .int .i64 c, .int .i64 d, .int .i64 e], .agg #[.int .i64 a, .int .i64 b, .int .i64 c, .int .i64 d, .int .i64 e]] w fun x w' => x = .returned (.bool true) ∧ Below w.heap.size w w' := by
  go_enter Try.func21, Try.ntmps21
  go_wp2
  go_ret
  exact ⟨rfl, (by repeat (first | exact Below.refl _ _ | assumption | refine Below.setCell ?_ (by first | omega | (simp; done) | (simp; omega)) _ | refine Below.alloc ?_ (by first | omega | (simp; done) | (simp; omega)) _ | refine Below.drew ?_ | refine Below.drewN' ?_ _ | refine Below.trans ?_ (Below.mono (by assumption) (by first | omega | (simp; done) | (simp; omega)))))⟩

/-- The cells of an argument that is a struct of integers. -/
theorem agg_ints {P : Program} {w : World} {r : Reach} {b t n : Nat} {v : Value} {fs : Array Field} {k : IntKind} {ts : List TypeId} (hu : P.underlying t = some (.struct fs)) (hc : P.cellsOf t = n) (hts : P.cellTypes P.depth t = some ts) (hl : ts.length = n)
    (hall : ∀ u ∈ ts, P.underlying u = some (.int k)) (h : Value.okWide P w r b t v) : ∃ zs : List Int, v = .agg (zs.map (Value.int k)).toArray ∧ zs.length = n := by
  simp only [Value.okWide, hu] at h
  obtain ⟨cs, rfl, hs, ts', hts', _, hcell⟩ := h
  rw [hts] at hts'
  injection hts' with hts'
  subst hts'
  have key : ∀ (i : Nat) (x : Value), cs[i]? = some x → ∃ z, x = Value.int k z := by
    intro i x hx
    obtain ⟨u, hu', hok⟩ := hcell i x hx
    have hi := hall u (List.mem_of_getElem? hu')
    simp only [Cell.okWide, hi] at hok
    cases x <;> simp_all [Cell.ok]
  have : ∀ l : List Value, (∀ (i : Nat) (x : Value), l[i]? = some x → ∃ z, x = Value.int k z) → ∃ zs : List Int, l = zs.map (Value.int k) := by
    intro l
    induction l with
    | nil => intro _; exact ⟨[], rfl⟩
    | cons x xs ih =>
      intro h
      obtain ⟨z, hz⟩ := h 0 x rfl
      obtain ⟨zs, hzs⟩ := ih fun i y hy => h (i + 1) y (by simpa using hy)
      exact ⟨z :: zs, by rw [hz, hzs]; rfl⟩
  obtain ⟨zs, hzs⟩ := this cs.toList fun i x hx => key i x (by simpa using hx)
  refine ⟨zs, ?_, ?_⟩
  · congr 1
    rw [← hzs]
  · have := congrArg List.length hzs
    simp at this
    omega
end Go.Proofs.Ytambjhapnhmmmaa
