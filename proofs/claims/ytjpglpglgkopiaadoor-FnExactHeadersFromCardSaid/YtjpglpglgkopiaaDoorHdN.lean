/-
  The program's reader of bytes: a number of a few bytes.
  Conditions: the reader's block and its bytes, as the theorem states them.
-/
import Derived.Test.YtjpglpglgkopiaaDoorLib
import Derived.Test.YtjpglpglgkopiaaDoorOwn
import Derived.Test.YtjpglpglgkopiaaDoorHdP
namespace Go.Proofs.YtjpglpglgkopiaaDoor
open Go.RowKit
set_option linter.unusedVariables false
set_option linter.unusedSimpArgs false

/-- The number of k bytes, from place p on. -/
def nU (zs : List Int) (p : Nat) : Nat → Int
  | 0 => 0
  | k + 1 => nU zs p k * 256 + zs[p + k]?.getD 0
/-- These are bytes. -/
def bOk (zs : List Int) (p k : Nat) : Prop := ∀ j, j < k → isB (zs[p + j]?.getD 0)
def cap8 : Nat → Int
  | 0 => 0
  | 1 => 255
  | 2 => 65535
  | _ => 16777215
theorem cap8_step {k : Nat} {v : Int} (hk : k < 3) (h : v ≤ cap8 k) : v * 256 + 255 ≤ cap8 (k + 1) ∧ v ≤ 65535 := by
  match k, hk with
  | 0, _ => simp only [cap8] at *; omega
  | 1, _ => simp only [cap8] at *; omega
  | 2, _ => simp only [cap8] at *; omega
theorem nU_cap {zs : List Int} {p : Nat} : ∀ {k : Nat}, k ≤ 3 → bOk zs p k → 0 ≤ nU zs p k ∧ nU zs p k ≤ cap8 k
  | 0, _, _ => by simp [nU, cap8]
  | k + 1, hk, h => by
    have ih := nU_cap (zs := zs) (p := p) (k := k) (by omega) fun j hj => h j (by omega)
    have h1 := h k (by omega)
    have h2 := cap8_step (by omega : k < 3) ih.2
    unfold isB at h1
    simp only [nU]
    omega
theorem bOk_succ {zs : List Int} {p k : Nat} (h : bOk zs p k) (hz : isB (zs[p + k]?.getD 0)) : bOk zs p (k + 1) := fun j hj => by
  rcases Nat.lt_or_ge j k with h1 | h1
  · exact h j h1
  · obtain rfl : j = k := by omega
    exact hz

/-- The number was read. -/
structure NumYes (g : Nat) (A : Option Addr) (n c : Nat) (zs : List Int) (p k : Nat) (w : World) (e : Ending) (w' : World) : Prop where
  e : e = .returned (.tuple #[.int .i64 (nU zs p k), .nilIface])
  bk : Bk w' g 54 #[.slice A n c, .int .i64 ((p + k : Nat) : Int)]
  only : Only g w w'
/-- An error came back. -/
def ErrOf (g : Nat) (v : Value) (w : World) (e : Ending) (w' : World) : Prop := ∃ a, e = .returned (.tuple #[v, .iface 59 (.pointer (some a))]) ∧ Only g w w'

set_option maxHeartbeats 4000000 in
theorem num_any (g p s n c : Nat) (A : Option Addr) (zs : List Int) (w : World) (hb : Bk w g 54 #[.slice A n c, .int .i64 p]) (hz : Ints w g A n zs) (hp : p + s ≤ n) (hn : n ≤ 1099511627776) (hs : s ≤ 3) :
    Calls Tryd.prog 54 #[.pointer (some ⟨g, 0, none⟩), .int .i64 s] w fun e w' => (bOk zs p s → NumYes g A n c zs p s w e w') ∧ (¬ bOk zs p s → ErrOf g (.int .i64 0) w e w') := by
  have hgw := hb.lt
  go_enter Tryd.func54, Tryd.ntmps54
  go_wp2
  go_loopw [6, 8] (fun nv i wr => ∃ k m : Nat, k ≤ s ∧ m = p + k ∧ nv = .int .i64 (nU zs p k) ∧ i = .int .i64 k ∧ bOk zs p k ∧ Bk wr g 54 #[.slice A n c, .int .i64 m] ∧ Only g w wr) (fun _ i _ => s - (intOf i).toNat)
  case atStart => exact ⟨0, p, by omega, by omega, rfl, by simp, fun j hj => absurd hj (by omega), hb, Only.refl _ _⟩
  case round =>
    obtain ⟨k, m, hk, hm, rfl, rfl, hok, hbk, ho⟩ := hrel
    have HOK := Lib.hid hok
    by_cases hlt : k < s
    · have hzr : Ints wr g A n zs := Sl.only hz ho (Nat.le_refl _) (Nat.le_of_lt hgw)
      obtain ⟨b, off, rfl, hbg, hcell⟩ := hzr.at_ (by omega)
      have hcm := hcell m (by omega)
      obtain ⟨z, hzm⟩ : ∃ z, zs[m]?.getD 0 = z := ⟨_, rfl⟩
      rw [hzm] at hcm
      have HZ := Lib.hid (show zs[p + k]?.getD 0 = z by rw [← hm]; exact hzm)
      obtain ⟨u, hu⟩ : ∃ u, nU zs p k = u := ⟨_, rfl⟩
      have HU := Lib.hid hu
      have hu1 := nU_cap (by omega) hok
      rw [hu] at hu1 ⊢
      have hu2 := (cap8_step (by omega : k < 3) hu1.2).2
      have hu0 := hu1.1
      have e1 : decide ((n : Int) ≤ (m : Int)) = false := by simp; omega
      have e2 : decide (n ≤ m) = false := by simp; omega
      have i0 : (0 : Int) ≤ (m : Int) := by omega
      have i1 : (m : Int) < (n : Int) := by omega
      (try clear hbk_c0); (try clear hbk_f0)
      (try clear hbk_c1); (try clear hbk_f1)
      (try clear hbk_lt)
      have hbk_lt := hbk.lt; (try simp only [World.size_alloc] at hbk_lt)
      have hbk_c0 := hbk.cell 0; have hbk_f0 := hbk.frozen 0
      have hbk_c1 := hbk.cell 1; have hbk_f1 := hbk.frozen 1
      simp only [List.getElem?_toArray, List.getElem?_cons_zero, List.getElem?_cons_succ] at hbk_c0 hbk_c1
      have HB := Lib.hid hbk
      have HM := Lib.hid hm
      clear hcell hzm hu hu1 hok hbk hzr hz hb hm
      by_cases z0 : z < 0
      · have e3 : decide (z < 0) = true := by simpa using z0
        go_wp2
        go_quiet (fail)
        go_wp2
        go_region
        go_wp2
        go_ret2
        exact ⟨fun h => absurd (h k hlt) (by rw [HZ.out]; unfold isB; omega), fun _ => ⟨_, rfl, by
          repeat (first | with_reducible exact ho | refine Only.alloc ?_ _ | refine Only.drewN ?_ _ | refine Only.drew ?_)⟩⟩
      · have e3 : decide (z < 0) = false := by simpa using z0
        by_cases z1 : 256 ≤ z
        · have e4 : decide (256 ≤ z) = true := by simpa using z1
          go_wp2
          go_quiet (fail)
          go_wp2
          go_region
          go_wp2
          go_ret2
          exact ⟨fun h => absurd (h k hlt) (by rw [HZ.out]; unfold isB; omega), fun _ => ⟨_, rfl, by
            repeat (first | with_reducible exact ho | refine Only.alloc ?_ _ | refine Only.drewN ?_ _ | refine Only.drew ?_)⟩⟩
        · have e4 : decide (256 ≤ z) = false := by simpa using z1
          have hbyte : isB (zs[p + k]?.getD 0) := by rw [HZ.out]; unfold isB; omega
          have HS := Lib.hid (show nU zs p (k + 1) = u * 256 + z by simp only [nU]; rw [HU.out, HZ.out])
          have HN := Lib.hid (bOk_succ HOK.out hbyte)
          clear hbyte
          go_wp2
          go_quiet (fail)
          go_wp2
          go_quiet (fail)
          go_wp2
          go_roundw
          case rel =>
            rename_i nqa
            refine ⟨k + 1, m + 1, by omega, by have := HM.out; omega, by rw [HS.out], by go_num, HN.out, ?_, ?_⟩
            · have := (HB.out.drewN (nqa + nq)).set_ 1 (.int .i64 ((m : Int) + 1))
              simpa using this
            · exact (ho.drewN (nqa + nq)).setCell (p := ⟨g, 1, none⟩) (.inl rfl) _
          case measure => simp [intOf]; omega
    · obtain rfl : k = s := by omega
      have HB := Lib.hid hbk
      have HM := Lib.hid hm
      obtain ⟨u, hu⟩ : ∃ u, nU zs p k = u := ⟨_, rfl⟩
      have HU := Lib.hid hu
      rw [hu]
      clear hbk hz hb hok hu hm
      go_wp2
      go_ret2
      refine ⟨fun _ => ⟨by have h1 := HU.out; subst h1; rfl, by have h1 := HB.out; rw [HM.out] at h1; exact h1, ho⟩, fun h => absurd HOK.out h⟩
theorem num_at (g p s n c : Nat) (sz : Int) (A : Option Addr) (zs : List Int) (w : World) (hsz : sz = s) (hb : Bk w g 54 #[.slice A n c, .int .i64 p]) (hz : Ints w g A n zs) (hp : p + s ≤ n) (hn : n ≤ 1099511627776) (hs : s ≤ 3) :
    Calls Tryd.prog 54 #[.pointer (some ⟨g, 0, none⟩), .int .i64 sz] w fun e w' => (bOk zs p s → NumYes g A n c zs p s w e w') ∧ (¬ bOk zs p s → ErrOf g (.int .i64 0) w e w') := by
  subst hsz
  exact num_any g p s n c A zs w hb hz hp hn hs
end Go.Proofs.YtjpglpglgkopiaaDoor
