/-
  'markIntS' and 'heldIntS' on a row of the call's own.
  Conditions: as each theorem states them.
-/
import Derived.Test.YthkoafcbcnobhaaSet
import Derived.Test.YthkoafcbcnobhaaInts
namespace Go.Proofs.Ythkoafcbcnobhaa
open Go.RowKit
set_option linter.unusedVariables false
set_option linter.unusedSimpArgs false

/-- The marks. -/
def mkI (k0 : Int) (n : Nat) : List Int := (List.range n).map fun i : Nat => k0 + (i : Int)
theorem mkI_len (k0 : Int) (n : Nat) : (mkI k0 n).length = n := by simp [mkI]
theorem mkI_at (k0 : Int) {n i : Nat} (hi : i < n) : (mkI k0 n)[i]?.getD 0 = k0 + i := by simp [mkI, List.getElem?_map, List.getElem?_range hi]
theorem mkI_step (k0 : Int) (zs : List Int) (k : Nat) (hk : k < zs.length) : (mkI k0 k ++ zs.drop k).set k (k0 + k) = mkI k0 (k + 1) ++ zs.drop (k + 1) := by
  rw [List.set_append_right _ _ (by rw [mkI_len]; exact Nat.le_refl _), mkI_len, Nat.sub_self]
  rw [List.drop_eq_getElem_cons hk, List.set_cons_zero]
  simp [mkI, List.range_succ]

set_option maxHeartbeats 1000000 in
theorem markI_any (base N c : Nat) (A : Option Addr) (zs : List Int) (k0 : Int) (w : World) (h : w.ownsRow base 3 1 (.slice A N c) N (zs.map (Value.int .i64))) (hN : N ≤ 1099511627776) (h0 : 0 ≤ k0) (h1 : k0 ≤ 1099511627776) :
    Calls Try.prog 29 #[.slice A N c, .int .i64 k0] w fun e w' => e = .returned (.int .i64 (k0 + N)) ∧ w'.ownsRow base 3 1 (.slice A N c) N ((mkI k0 N).map (Value.int .i64)) ∧ But (fun k => Value.ownBlock (.slice A N c) = some k) w w' := by
  have HZ := Lib.hid (show zs.length = N by have := h.1; simpa using this)
  have H0 := Lib.hid h
  clear h
  go_enter Try.func29, Try.ntmps29
  go_wp2
  go_loopw [1, 5] (fun kv i wr => ∃ k : Nat, k ≤ N ∧ i = .int .i64 k ∧ kv = .int .i64 (k0 + k) ∧ wr.ownsRow base 3 1 (.slice A N c) N ((mkI k0 k ++ zs.drop k).map (Value.int .i64)) ∧ But (fun k => Value.ownBlock (.slice A N c) = some k) w wr) (fun _ i _ => N - (intOf i).toNat)
  case atStart => exact ⟨0, by omega, rfl, by simp, by simpa [mkI] using H0.out, But.refl _ _⟩
  case round =>
    obtain ⟨k, hk, rfl, rfl, ho, hB⟩ := hrel
    by_cases hlt : k < N
    · have e0 : decide (k < N) = true := by simpa using hlt
      obtain ⟨g, cap, e, hg, hgl, -, -⟩ := own_head ho (by omega)
      injection e with e1 e3 e4
      subst e1 e4
      have hset := own_set (j := k) ho (.int .i64 (k0 + k))
      rw [← List.map_set, mkI_step k0 zs k (by rw [HZ.out]; exact hlt)] at hset
      have HS := Lib.hid hset
      have hcl := own_cell ho (i := k) (u := .int .i64 ((mkI k0 k ++ zs.drop k)[k]'(by rw [List.length_append, mkI_len, List.length_drop, HZ.out]; omega))) (by rw [List.getElem?_map, List.getElem?_eq_getElem]; rfl)
      have hfz := own_free ho k
      have hB' := hB.setCell (p := ⟨g, k, none⟩) (.inl rfl) (.int .i64 (k0 + k))
      clear hset ho
      generalize (mkI k0 k ++ zs.drop k)[k]'_ = u at hcl
      go_wp2
      go_roundw
      case rel => exact ⟨k + 1, by omega, by go_num, by go_num, HS.out, hB'⟩
      case measure => simp [intOf]; omega
    · have hkn : k = N := by omega
      subst hkn
      have HO := Lib.hid ho
      clear ho
      go_wp2
      go_ret
      exact ⟨rfl, by have := HO.out; rwa [List.drop_eq_nil_of_le (by rw [HZ.out]; exact Nat.le_refl _), List.append_nil] at this, hB⟩
set_option maxHeartbeats 1000000 in
theorem heldI_any (N c B : Nat) (A : Option Addr) (k0 : Int) (w : World) (h : Ints w B A N (mkI k0 N)) (hN : N ≤ 1099511627776) (h0 : 0 ≤ k0) (h1 : k0 ≤ 1099511627776) :
    Calls Try.prog 30 #[.slice A N c, .int .i64 k0] w fun e w' => e = .returned (.int .i64 (k0 + N)) ∧ Below w.heap.size w w' := by
  go_enter Try.func30, Try.ntmps30
  go_wp2
  go_loopw [1, 5] (fun kv i wr => ∃ k m : Nat, k ≤ N ∧ i = .int .i64 k ∧ kv = .int .i64 (k0 + k) ∧ wr = w.drewN m) (fun _ i _ => N - (intOf i).toNat)
  case atStart => exact ⟨0, 0, by omega, rfl, by simp, rfl⟩
  case round =>
    obtain ⟨k, m, hk, rfl, rfl, rfl⟩ := hrel
    by_cases hlt : k < N
    · have e0 : decide (k < N) = true := by simpa using hlt
      obtain ⟨b, off, rfl, hb, hcell⟩ := h.at_ (by omega)
      have hck := hcell k hlt
      rw [mkI_at k0 hlt] at hck
      have e1 : (k0 + (k : Int) != k0 + k) = false := by simp
      clear hcell
      go_wp2
      (try (go_quiet (fail); go_wp2))
      go_roundw
      case rel => exact ⟨k + 1, _, by omega, by go_num, by go_num, rfl⟩
      case measure => simp [intOf]; omega
    · have hkn : k = N := by omega
      subst hkn
      go_wp2
      go_ret
      exact ⟨rfl, Below.drewN' (Below.refl _ _) m⟩
end Go.Proofs.Ythkoafcbcnobhaa
