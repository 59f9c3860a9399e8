/-
  HeadersFrom, of the program and of the reference.
  Conditions: the slice's memory; for the program's: what the variable errors.errorType holds.
-/
import Derived.Test.YtjpglpglgkopiaaDoorHdH
import Derived.Test.YtjpglpglgkopiaaDoorHdS
namespace Go.Proofs.YtjpglpglgkopiaaDoor
open Go.RowKit
set_option linter.unusedVariables false
set_option linter.unusedSimpArgs false

/-- What HeadersFrom answers. -/
structure HxYes (ps : List Pk) (w : World) (e : Ending) (w' : World) : Prop where
  out : ∃ A c, e = .returned (.tuple #[.slice A ps.length c, .bool true]) ∧ w'.ownsRow w.heap.size 24 6 (.slice A ps.length c) ps.length (ps.flatMap Pk.c)
  below : Below w.heap.size w w'
structure HxNo (w : World) (e : Ending) (w' : World) : Prop where
  out : ∃ A c, e = .returned (.tuple #[.slice A 0 c, .bool false])
  below : Below w.heap.size w w'
def HxRet (near : Int) (zs : List Int) (w : World) (e : Ending) (w' : World) : Prop := (∀ ps, hsR near zs = some ps → HxYes ps w e w') ∧ (hsR near zs = none → HxNo w e w')

/-- The lengths that HeadersFrom refuses. -/
theorem len_cases (n : Nat) : (∃ N, n = 8 * N ∧ N ≤ 20) ∨ ¬ (n % 8 = 0 ∧ n ≤ 160) := by
  by_cases h : n % 8 = 0 ∧ n ≤ 160
  · exact .inl ⟨n / 8, by omega, by omega⟩
  · exact .inr h

set_option maxHeartbeats 4000000 in
set_option maxRecDepth 100000 in
theorem ihx_any (near : Int) (n c : Nat) (A : Option Addr) (zs : List Int) (w : World) (hz : Ints w w.heap.size A n zs) (hn : n ≤ 1099511627776) (hg : HgOk w) :
    Calls Tryd.prog 26 #[.int .i64 near, .slice A n c] w (HxRet near zs w) := by
  have HL := Lib.hid hz.len
  have hg0 := hg.lt
  rcases len_cases n with ⟨N, hN, hN20⟩ | hbad
  rotate_left
  · have HQ := Lib.hid (hsR_len (near := near) (zs := zs) (by rw [HL.out]; exact hbad))
    have hB0 : ∀ o, Below w.heap.size w (w.alloc o) := fun o => (Below.refl w.heap.size w).alloc (Nat.le_refl _) o
    by_cases h8 : n % 8 = 0
    · have e1 : ((n : Int) % 8 != 0) = false := by simp; omega
      have e2 : (n % 8 != 0) = false := by simp; omega
      have e3 : decide ((160 : Int) < (n : Int)) = true := by simp; omega
      have e4 : decide (160 < n) = true := by simp; omega
      clear hbad hg h8
      go_enter Tryd.func26, Tryd.ntmps26
      go_wp2
      go_ret2
      exact ⟨fun ps h => absurd (HQ.out.symm.trans h) (by simp), fun _ => ⟨⟨_, _, rfl⟩, hB0 _⟩⟩
    · have e1 : ((n : Int) % 8 != 0) = true := by simp; omega
      have e2 : (n % 8 != 0) = true := by simp; omega
      clear hbad hg h8
      go_enter Tryd.func26, Tryd.ntmps26
      go_wp2
      go_ret2
      exact ⟨fun ps h => absurd (HQ.out.symm.trans h) (by simp), fun _ => ⟨⟨_, _, rfl⟩, hB0 _⟩⟩
  have e1 : ((n : Int) % 8 != 0) = false := by simp; omega
  have e2 : (n % 8 != 0) = false := by simp; omega
  have e3 : decide ((160 : Int) < (n : Int)) = false := by simp; omega
  have e4 : decide (160 < n) = false := by simp; omega
  have hbx : Below w.heap.size w (w.alloc (.cells #[.slice A n c, .int .i64 0] 54)) := (by repeat (first | exact Below.refl _ _ | assumption | refine Below.setCell ?_ (by first | omega | (simp; done) | (simp; omega)) _ | refine Below.alloc ?_ (by first | omega | (simp; done) | (simp; omega)) _ | refine Below.drew ?_ | refine Below.drewN' ?_ _ | refine Below.trans ?_ (Below.mono (by assumption) (by first | omega | (simp; done) | (simp; omega)))))
  have hb : Bk (w.alloc (.cells #[.slice A n c, .int .i64 0] 54)) w.heap.size 54 #[.slice A n c, .int .i64 ((0 : Nat) : Int)] := Bk.new _ _ _
  have hhd := hdr_any w.heap.size N n c near A zs _ hb (hz.below hbx) hN hN20
  have HPK := Lib.hid hhd
  clear hhd hb hN
  go_enter Tryd.func26, Tryd.ntmps26
  go_wp2_with fail
  refine HPK.out.mono ?_
  rintro e w1 ⟨hy, hx⟩
  clear HPK
  cases hq : hsR near zs with
  | some ps =>
    obtain ⟨⟨v, rfl, hown⟩, ho⟩ := hy ps hq
    clear hy hx
    have HQ := Lib.hid hq
    clear hq
    have hB1 : Below w.heap.size w w1 := hbx.trans (ho.below (Nat.le_refl _) hbx.size)
    have hs1 := hB1.size
    obtain ⟨A2, c2, rfl, -, -, -⟩ := own_shape hown
    have HO := Lib.hid (own_more hown (base' := w.heap.size) (by simp))
    have hB2 : ∀ o, Below w.heap.size w (w1.alloc o) := fun o => hB1.alloc hs1 o
    clear ho hbx hg hown
    go_wp2_with fail
    refine (as_nil _ _).mono ?_
    rintro e w3 ⟨rfl, rfl⟩
    go_wp2
    go_ret2
    refine ⟨fun qs h => ?_, fun h => absurd (HQ.out.symm.trans h) (by simp)⟩
    obtain rfl := Option.some.inj (HQ.out.symm.trans h)
    exact ⟨⟨A2, c2, rfl, HO.out.alloc _⟩, hB2 _⟩
  | none =>
    obtain ⟨a, rfl, ho⟩ := hx hq
    clear hy hx
    have HQ := Lib.hid hq
    clear hq
    have hB1 : Below w.heap.size w w1 := hbx.trans (ho.below (Nat.le_refl _) hbx.size)
    have hs1 := hB1.size
    have hB2 : Below w.heap.size w (w1.alloc (.cells #[.pointer none] 59)) := hB1.alloc hs1 _
    have hu := Bk.new w1 59 #[.pointer none]
    have hg2 := hg.below hB2 hg0
    have HG2 := Lib.hid hg2
    have HU := Lib.hid hu
    clear ho hbx hg hg2 hu
    go_wp2_with fail
    refine (as_true a ⟨w1.heap.size, 0, none⟩ (.pointer none) _ HG2.out (HU.out.cell 0) (HU.out.frozen 0)).mono ?_
    rintro e w3 ⟨rfl, ho3⟩
    have hB3 : Below w.heap.size w w3 := hB2.trans (ho3.below hs1 hB2.size)
    have hs3 := hB3.size
    clear ho3 HU HG2
    go_wp2
    go_ret2
    exact ⟨fun qs h => absurd (HQ.out.symm.trans h) (by simp), fun _ => ⟨⟨_, _, rfl⟩, hB3.alloc hs3 _⟩⟩
end Go.Proofs.YtjpglpglgkopiaaDoor
