/-
  Stats: the draws.
  Conditions: the code's memory.
-/
import Derived.Test.YtambjhapnhmmmaaRows
import Derived.Test.YtambjhapnhmmmaaLib
import Derived.Test.YtambjhapnhmmmaaDraw
import Derived.Test.YtambjhapnhmmmaaInv
import Derived.Test.YtambjhapnhmmmaaSlots
import Derived.Test.YtambjhapnhmmmaaStats
import Derived.Test.YtambjhapnhmmmaaStatsB
namespace Go.Proofs.Ytambjhapnhmmmaa
open Go.RowKit
set_option linter.unusedVariables false
set_option linter.unusedSimpArgs false

theorem snew_ok (a t cm : Int) (w : World) (h : wtB a t cm = true) :
    Calls Try.prog 69 #[.int .i64 a, .int .i64 t, .int .i64 cm] w fun x w' => x = .returned (.tuple #[.agg #[.int .i64 a, .int .i64 a, .int .i64 1, .int .i64 0, .int .i64 (cm - t)], .bool true]) ∧ Below w.heap.size w w' := by
  obtain ⟨h1, h2, h3, h4, h5, h6⟩ := (of_decide_eq_true h : WtOk a t cm)
  have hl := fun w => l14ok_any a t cm w
  rw [h] at hl
  clear h
  go_enter Try.func69, Try.ntmps69
  go_wp2_with (first | (go_at_call 47; refine (hl _).mono ?_; rintro x w2 ⟨rfl, rfl⟩))
  refine ⟨rfl, ?_⟩
  apply Exists.intro
  apply And.intro
  · simp [results, Try.results69, go_sem]; exact rfl
  · exact ⟨rfl, (by repeat (first | exact Below.refl _ _ | assumption | refine Below.setCell ?_ (by first | omega | (simp; done) | (simp; omega)) _ | refine Below.alloc ?_ (by first | omega | (simp; done) | (simp; omega)) _ | refine Below.drew ?_ | refine Below.drewN' ?_ _ | refine Below.trans ?_ (Below.mono (by assumption) (by first | omega | (simp; done) | (simp; omega)))))⟩

/-- What the slots hold of a region that picks two numbers out of two rows. -/
def I3 (g : Nat) (us vs : List Int) : Nat → Value → World → Prop
  | 0, v, w => VRow 3 g us v w
  | 1, v, _ => v = .pointer (some ⟨g, 0, none⟩)
  | 2, v, _ => VInt 0 2 v
  | 3, v, w => VCell 3 g us v w
  | 4, v, _ => ∃ r : Int, v = .int .i64 r
  | 5, v, w => VRow 3 g vs v w
  | 6, v, _ => v = .pointer (some ⟨g, 0, none⟩)
  | 7, v, _ => VInt 0 2 v
  | 8, v, w => VCell 3 g vs v w
  | 9, v, _ => ∃ r : Int, v = .int .i64 r
  | 10, v, _ => ∃ r : Int, v = .int .i64 r
  | 11, v, _ => ∃ r : Int, v = .int .i64 r
  | 12, v, _ => ∃ r : Int, v = .int .i64 r
  | _, _, _ => True
theorem I3.only {g : Nat} {us vs : List Int} (j : Nat) (v : Value) (w w' : World) (ho : Only g w w') (h : I3 g us vs j v w) : I3 g us vs j v w' := by
  unfold I3 at *
  split at h <;> first | exact VRow.only h ho | exact VCell.only h ho | exact h

/-- Three numbers come back. -/
def Three (B g K : Nat) (w : World) (e : Ending) (w' : World) : Prop :=
  ∃ a b c : Int, e = .returned (.tuple #[.int .i64 a, .int .i64 b, .int .i64 c]) ∧ Rd w' B g K ∧ Only g w w'

set_option maxHeartbeats 4000000 in
theorem l92Three_any (B g K : Nat) (w : World) (h : Rd w B g K) (hK : K ≤ 1099511620000) :
    Calls Try.prog 66 #[.pointer (some ⟨g, 0, none⟩)] w (Three B g (K + 14) w) := by
  have hl := h.lt
  go_enter Try.func66, Try.ntmps66
  go_wp2_with fail
  refine (pick_any _ _ _ _ _ h (by omega) (by omega)).mono ?_
  rintro e w_p ⟨p, rfl, p_0, p_1, hrd_p, ho_p, hsz_p⟩
  have p_u := p_1 (by omega)
  have hlt_p := hrd_p.lt
  clear p_1
  by_cases hp : p = 0
  · subst hp
    go_wp2_with fail
    refine wp_region_inv (fun n w' => Rd w' B g (K + 1 + n) ∧ Only g w_p w') (Only g) (I3 g [-1, 5, 1000000] [-1, 5, 100000]) (by kernel_rfl) (by kernel_rfl) (by kernel_rfl) ⟨Rd.drew hrd_p, Only.drew (Only.refl _ _)⟩ I3.only ⟨?_, ?_, ?_, ?_, ?_, ?_, ?_, ?_, ?_, ?_, ?_, ?_, ?_, trivial⟩ ?_
    · intro n x wv hn ⟨hcr, hco⟩ hd
      have HO := Lib.hid hco
      clear hco
      replace hn : n < 13 := hn
      have hlv := hcr.lt
      clear hd
      refine ⟨?_⟩
      simp only [fill, Act.put, List.setIfInBounds_toArray, List.set_cons_zero, List.set_cons_succ]
      go_simp
      exact ⟨(Only.refl _ _).alloc _, ⟨(hcr.below ((Below.refl _ _).alloc (Nat.le_refl _) _)).more (by omega), HO.out.alloc _⟩, _, rfl, by omega, Bk.new _ _ _⟩
    · intro n x wv hn ⟨hcr, hco⟩ hd
      have HO := Lib.hid hco
      clear hco
      replace hn : n < 13 := hn
      have hlv := hcr.lt
      clear hd
      refine ⟨?_⟩
      simp only [fill, Act.put, List.setIfInBounds_toArray, List.set_cons_zero, List.set_cons_succ]
      go_simp
      exact ⟨Only.refl _ _, ⟨hcr.more (by omega), HO.out⟩, rfl⟩
    · intro n x wv hn ⟨hcr, hco⟩ hd
      have HO := Lib.hid hco
      clear hco
      replace hn : n < 13 := hn
      have hlv := hcr.lt
      simp [I3, Region.binds] at hd
      obtain hx := hd
      refine ⟨?_⟩
      simp only [fill, Act.put, List.setIfInBounds_toArray, List.set_cons_zero, List.set_cons_succ]
      go_simp
      refine (pick_any B g _ _ _ hcr (by omega) (by omega)).mono ?_
      rintro e w2 ⟨r, rfl, r0, r1, hrd2, ho2, _⟩
      exact ⟨ho2, ⟨hrd2.more (by omega), HO.out.trans ho2⟩, r, rfl, r0, by have := r1 (by omega); omega⟩
    · intro n x wv hn ⟨hcr, hco⟩ hd
      have HO := Lib.hid hco
      clear hco
      replace hn : n < 13 := hn
      have hlv := hcr.lt
      simp [I3, Region.binds] at hd
      obtain ⟨⟨b, hx0, hbg, hbk⟩, r, hx2, r0, r1⟩ := hd
      obtain ⟨k, rfl⟩ := Int.eq_ofNat_of_zero_le r0
      have hbk := Lib.hid hbk
      have r3 : (k : Int) < 3 := by omega
      refine ⟨?_⟩
      simp only [fill, Act.put, List.setIfInBounds_toArray, List.set_cons_zero, List.set_cons_succ]
      go_simp
      exact ⟨Only.refl _ _, ⟨hcr.more (by omega), HO.out⟩, b, k, rfl, hbg, (by simp; omega), hbk.out⟩
    · intro n x wv hn ⟨hcr, hco⟩ hd
      have HO := Lib.hid hco
      clear hco
      replace hn : n < 13 := hn
      have hlv := hcr.lt
      simp [I3, Region.binds] at hd
      obtain ⟨b, k, hx3, hbg, hk, hbk⟩ := hd
      obtain ⟨z, hz, _, _⟩ := lit_cell [-1, 5, 1000000] (-1) 1000000 hbk (by decide) hk
      refine ⟨?_⟩
      simp only [fill, Act.put, List.setIfInBounds_toArray, List.set_cons_zero, List.set_cons_succ]
      go_simp
      exact ⟨Only.refl _ _, ⟨hcr.more (by omega), HO.out⟩, z, rfl⟩
    · intro n x wv hn ⟨hcr, hco⟩ hd
      have HO := Lib.hid hco
      clear hco
      replace hn : n < 13 := hn
      have hlv := hcr.lt
      clear hd
      refine ⟨?_⟩
      simp only [fill, Act.put, List.setIfInBounds_toArray, List.set_cons_zero, List.set_cons_succ]
      go_simp
      exact ⟨(Only.refl _ _).alloc _, ⟨(hcr.below ((Below.refl _ _).alloc (Nat.le_refl _) _)).more (by omega), HO.out.alloc _⟩, _, rfl, by omega, Bk.new _ _ _⟩
    · intro n x wv hn ⟨hcr, hco⟩ hd
      have HO := Lib.hid hco
      clear hco
      replace hn : n < 13 := hn
      have hlv := hcr.lt
      clear hd
      refine ⟨?_⟩
      simp only [fill, Act.put, List.setIfInBounds_toArray, List.set_cons_zero, List.set_cons_succ]
      go_simp
      exact ⟨Only.refl _ _, ⟨hcr.more (by omega), HO.out⟩, rfl⟩
    · intro n x wv hn ⟨hcr, hco⟩ hd
      have HO := Lib.hid hco
      clear hco
      replace hn : n < 13 := hn
      have hlv := hcr.lt
      simp [I3, Region.binds] at hd
      obtain hx := hd
      refine ⟨?_⟩
      simp only [fill, Act.put, List.setIfInBounds_toArray, List.set_cons_zero, List.set_cons_succ]
      go_simp
      refine (pick_any B g _ _ _ hcr (by omega) (by omega)).mono ?_
      rintro e w2 ⟨r, rfl, r0, r1, hrd2, ho2, _⟩
      exact ⟨ho2, ⟨hrd2.more (by omega), HO.out.trans ho2⟩, r, rfl, r0, by have := r1 (by omega); omega⟩
    · intro n x wv hn ⟨hcr, hco⟩ hd
      have HO := Lib.hid hco
      clear hco
      replace hn : n < 13 := hn
      have hlv := hcr.lt
      simp [I3, Region.binds] at hd
      obtain ⟨⟨b, hx0, hbg, hbk⟩, r, hx2, r0, r1⟩ := hd
      obtain ⟨k, rfl⟩ := Int.eq_ofNat_of_zero_le r0
      have hbk := Lib.hid hbk
      have r3 : (k : Int) < 3 := by omega
      refine ⟨?_⟩
      simp only [fill, Act.put, List.setIfInBounds_toArray, List.set_cons_zero, List.set_cons_succ]
      go_simp
      exact ⟨Only.refl _ _, ⟨hcr.more (by omega), HO.out⟩, b, k, rfl, hbg, (by simp; omega), hbk.out⟩
    · intro n x wv hn ⟨hcr, hco⟩ hd
      have HO := Lib.hid hco
      clear hco
      replace hn : n < 13 := hn
      have hlv := hcr.lt
      simp [I3, Region.binds] at hd
      obtain ⟨b, k, hx3, hbg, hk, hbk⟩ := hd
      obtain ⟨z, hz, _, _⟩ := lit_cell [-1, 5, 100000] (-1) 1000000 hbk (by decide) hk
      refine ⟨?_⟩
      simp only [fill, Act.put, List.setIfInBounds_toArray, List.set_cons_zero, List.set_cons_succ]
      go_simp
      exact ⟨Only.refl _ _, ⟨hcr.more (by omega), HO.out⟩, z, rfl⟩
    · intro n x wv hn ⟨hcr, hco⟩ hd
      have HO := Lib.hid hco
      clear hco
      replace hn : n < 13 := hn
      have hlv := hcr.lt
      simp [I3, Region.binds] at hd
      obtain ⟨⟨z, hx⟩, _⟩ := hd
      refine ⟨?_⟩
      simp only [fill, Act.put, List.setIfInBounds_toArray, List.set_cons_zero, List.set_cons_succ]
      go_simp
      exact ⟨Only.refl _ _, ⟨hcr.more (by omega), HO.out⟩, z, rfl⟩
    · intro n x wv hn ⟨hcr, hco⟩ hd
      have HO := Lib.hid hco
      clear hco
      replace hn : n < 13 := hn
      have hlv := hcr.lt
      simp [I3, Region.binds] at hd
      obtain ⟨⟨z, hx⟩, _⟩ := hd
      refine ⟨?_⟩
      simp only [fill, Act.put, List.setIfInBounds_toArray, List.set_cons_zero, List.set_cons_succ]
      go_simp
      exact ⟨Only.refl _ _, ⟨hcr.more (by omega), HO.out⟩, z, rfl⟩
    · intro n x wv hn ⟨hcr, hco⟩ hd
      have HO := Lib.hid hco
      clear hco
      replace hn : n < 13 := hn
      have hlv := hcr.lt
      clear hd
      refine ⟨?_⟩
      simp only [fill, Act.put, List.setIfInBounds_toArray, List.set_cons_zero, List.set_cons_succ]
      go_simp
      exact ⟨Only.refl _ _, ⟨hcr.more (by omega), HO.out⟩, 7, rfl⟩
    · intro x wv ⟨hcr, hco⟩ hI
      have HO := Lib.hid hco
      clear hco
      obtain ⟨a, ha⟩ := hI 10 (by decide)
      obtain ⟨b, hb⟩ := hI 11 (by decide)
      obtain ⟨c, hc⟩ := hI 12 (by decide)
      clear hI
      refine ⟨?_⟩
      simp only [fill, Act.put, List.setIfInBounds_toArray, List.set_cons_zero, List.set_cons_succ, ha, hb, hc]
      go_wp2
      refine bodyPost_ret (results_tmp3 rfl _ _ _) rfl ?_
      exact ⟨_, _, _, rfl, hcr, ho_p.trans HO.out⟩
  · have e0 : (p == 0) = false := by simpa using hp
    go_wp2_with fail
    refine (pick_any _ _ _ _ _ hrd_p (by omega) (by omega)).mono ?_
    rintro e w_q ⟨q, rfl, q_0, q_1, hrd_q, ho_q, hsz_q⟩
    have q_u := q_1 (by omega)
    have hlt_q := hrd_q.lt
    clear q_1
    go_wp2_with fail
    refine (pick_any _ _ _ _ _ hrd_q (by omega) (by omega)).mono ?_
    rintro e w_r ⟨r, rfl, r_0, r_1, hrd_r, ho_r, hsz_r⟩
    have r_u := r_1 (by omega)
    have hlt_r := hrd_r.lt
    clear r_1
    go_wp2_with fail
    refine (pick_any _ _ _ _ _ hrd_r (by omega) (by omega)).mono ?_
    rintro e w_s ⟨s, rfl, s_0, s_1, hrd_s, ho_s, hsz_s⟩
    have s_u := s_1 (by omega)
    have hlt_s := hrd_s.lt
    clear s_1
    go_wp2
    refine bodyPost_ret (results_tmp3 rfl _ _ _) rfl ?_
    exact ⟨_, _, _, rfl, hrd_s.more (by omega), ((ho_p.trans ho_q).trans ho_r).trans ho_s⟩
end Go.Proofs.Ytambjhapnhmmmaa
