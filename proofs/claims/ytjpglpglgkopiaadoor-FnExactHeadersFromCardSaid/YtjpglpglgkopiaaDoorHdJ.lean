/-
  'toIntS' copies a slice of integers into new memory; 'eqIntS' says that two slices of the same integers are equal.
  Conditions: the slices' memory and lengths, as each theorem states them.
-/
import Derived.Test.YtjpglpglgkopiaaDoorRows
import Derived.Test.YtjpglpglgkopiaaDoorLib
import Derived.Test.YtjpglpglgkopiaaDoorSet
namespace Go.Proofs.YtjpglpglgkopiaaDoor
open Go.RowKit
set_option linter.unusedVariables false
set_option linter.unusedSimpArgs false

theorem int_infoJ : (Tryd.prog.info? 3).map (fun i => (i.zero, i.size, i.bytes)) = some (some (.int .i64 0), 1, 8) := by kernel_rfl

/-- A new row of which the first k cells are written. -/
def Part (w : World) (g n k : Nat) (zs : List Int) : Prop := ∃ cs : Array Value, Bk w g 3 cs ∧ cs.size = n ∧ ∀ j, j < k → cs[j]? = some (.int .i64 (zs[j]?.getD 0))

theorem Part.cell {w : World} {g n k i : Nat} {zs : List Int} (h : Part w g n k zs) (hi : i < n) : ∃ u, w.cell? ⟨g, i, none⟩ = some u := by
  obtain ⟨cs, h1, h2, _⟩ := h
  exact ⟨_, by rw [h1.cell i, Array.getElem?_eq_getElem (by omega)]⟩
theorem Part.free {w : World} {g n k : Nat} {zs : List Int} (h : Part w g n k zs) (i : Nat) : w.frozen? ⟨g, i, none⟩ = false := by
  obtain ⟨cs, h1, h2, _⟩ := h
  exact h1.frozen i
theorem Part.step {w : World} {g n k : Nat} {zs : List Int} (h : Part w g n k zs) (hk : k < n) : Part (w.setCell ⟨g, k, none⟩ (.int .i64 (zs[k]?.getD 0))) g n (k + 1) zs := by
  obtain ⟨cs, h1, h2, h3⟩ := h
  refine ⟨_, h1.set_ k _, by simpa using h2, fun j hj => ?_⟩
  rw [Array.getElem?_setIfInBounds]
  by_cases e : k = j
  · subst e; simp; omega
  · rw [if_neg e]; exact h3 j (by omega)
theorem Part.ints {w : World} {g n : Nat} {zs : List Int} (h : Part w g n n zs) (hz : zs.length = n) : Ints w w.heap.size (some ⟨g, 0, none⟩) n zs := by
  obtain ⟨cs, h1, h2, h3⟩ := h
  refine ⟨by simp [hz], fun _ => ⟨g, 0, rfl, h1.lt, fun j u hu => ?_⟩⟩
  rw [List.getElem?_map] at hu
  rcases hj : zs[j]? with _ | z
  · rw [hj] at hu; cases hu
  · rw [hj] at hu
    simp at hu
    have hjl : j < zs.length := (List.getElem?_eq_some_iff.1 hj).1
    rw [Nat.zero_add, h1.cell j, h3 j (by omega), hj, ← hu]
    rfl

theorem Part.own {w : World} {base g n : Nat} {zs : List Int} (h : Part w g n n zs) (hz : zs.length = n) (hb : base ≤ g) (hn : n ≤ maxLen) : w.ownsRow base 3 1 (.slice (some ⟨g, 0, none⟩) n n) n (zs.map (Value.int .i64)) := by
  obtain ⟨cs, h1, h2, h3⟩ := h
  refine ⟨by simp [hz], .inr ⟨g, n, cs, rfl, hb, h1, Nat.le_refl _, hn, by simpa using h2, ?_⟩⟩
  apply List.ext_getElem?
  intro j
  rw [List.getElem?_take, Array.getElem?_toList, List.getElem?_map]
  by_cases hj : j < n
  · rw [if_pos (by omega), h3 j hj, List.getElem?_eq_getElem (by omega)]
    simp
  · rw [if_neg (by omega), List.getElem?_eq_none (by omega)]
    rfl

set_option maxHeartbeats 400000 in
theorem toIntS_any (A : Option Addr) (n c : Nat) (zs : List Int) (w : World) (h : Ints w w.heap.size A n zs) (hnc : n ≤ c) (hc : n ≤ 1099511627776) :
    Calls Tryd.prog 13 #[.slice A n c] w fun e w' => ∃ A', e = .returned (.slice A' n n) ∧ w'.ownsRow w.heap.size 3 1 (.slice A' n n) n (zs.map (Value.int .i64)) ∧ Below w.heap.size w w' := by
  have Hz := Lib.hid h.len
  obtain ⟨i0, hi0, hz0, hz1, hz2⟩ := info_parts int_infoJ
  go_enter Tryd.func13, Tryd.ntmps13
  go_wp2_with (at_make; refine wpList_make_full _ rfl _ _ 22 rfl w.heap.size 3 i0 (.int .i64 0) 1 Tryd.underlying22 hi0 hz0 hz1 .i64 .i64 _ _ n rfl rfl rfl rfl (by rw [hz2]; omega) (by unfold maxLen; omega) (Nat.le_refl _) ?_; intro w1 hown hgrow)
  have hp0 : Part w1 w.heap.size n 0 zs := by
    rcases hown.2 with ⟨h1, _⟩ | ⟨g, cap, cur, hv, _, hg, _, _, hs, _⟩
    · cases h1
    · injection hv with hv _ hcap
      injection hv with hv
      injection hv with hv
      subst hv hcap
      exact ⟨cur, hg, by simpa using hs, fun j hj => absurd hj (by omega)⟩
  have hb0 : Below w.heap.size w w1 := (Below.refl _ _).grown hgrow (Nat.le_refl _) (by simp)
  clear hown hgrow
  go_loopw [4] (fun i wr => ∃ k : Nat, k ≤ n ∧ i = .int .i64 k ∧ Part wr w.heap.size n k zs ∧ Below w.heap.size w wr) (fun i _ => n - (intOf i).toNat)
  case atStart => exact ⟨0, by omega, rfl, hp0, hb0⟩
  case round =>
    obtain ⟨k, hk, rfl, hp, hb⟩ := hrel
    by_cases hlt : k < n
    · obtain ⟨b, off, rfl, hbB, hcell⟩ := h.at_ (by omega)
      have hck := (hb.cell (p := ⟨b, off + k, none⟩) hbB).trans (hcell k hlt)
      obtain ⟨u, hu⟩ := hp.cell hlt
      have hf := hp.free k
      have hp' := hp.step hlt
      have hb' := hb.setCell (p := ⟨w.heap.size, k, none⟩) (Nat.le_refl _) (.int .i64 (zs[k]?.getD 0))
      clear hcell hp
      go_wp2
      go_roundw
      case rel => exact ⟨k + 1, by omega, by go_num, hp', hb'⟩
      case measure => simp [intOf]; omega
    · have hkn : k = n := by omega
      subst hkn
      go_wp2
      go_ret
      exact ⟨_, rfl, hp.own Hz.out (Nat.le_refl _) (by unfold maxLen; omega), hb⟩


set_option maxHeartbeats 400000 in
theorem eqIntS_same (A A' : Option Addr) (n c c' B : Nat) (zs : List Int) (w : World) (h : Ints w B A n zs) (h' : Ints w B A' n zs) (hn : n ≤ 1099511627776) :
    Calls Tryd.prog 16 #[.slice A n c, .slice A' n c'] w fun e w' => e = .returned (.bool true) ∧ Below w.heap.size w w' := by
  have e0 : ((n : Int) != n) = false := by simp
  go_enter Tryd.func16, Tryd.ntmps16
  go_wp2
  go_loopw [5] (fun i wr => ∃ k m : Nat, k ≤ n ∧ i = .int .i64 k ∧ wr = w.drewN m) (fun i _ => n - (intOf i).toNat)
  case atStart => exact ⟨0, 0, by omega, rfl, rfl⟩
  case round =>
    obtain ⟨k, m, hk, rfl, rfl⟩ := hrel
    by_cases hlt : k < n
    · obtain ⟨b, off, rfl, hbB, hcell⟩ := h.at_ (by omega)
      obtain ⟨b', off', rfl, hbB', hcell'⟩ := h'.at_ (by omega)
      have hck := hcell k hlt
      have hck' := hcell' k hlt
      clear hcell hcell'
      go_wp2
      go_quiet (fail)
      go_wp2
      go_roundw
      case rel => exact ⟨k + 1, _, by omega, by go_num, rfl⟩
      case measure => simp [intOf]; omega
    · go_wp2
      go_ret
      exact ⟨rfl, Below.drewN' (Below.refl _ _) m⟩

/-- The marks. -/
def mkI (k0 : Int) (n : Nat) : List Int := (List.range n).map fun i : Nat => k0 + (i : Int)
theorem mkI_len (k0 : Int) (n : Nat) : (mkI k0 n).length = n := by simp [mkI]
theorem mkI_at (k0 : Int) {n i : Nat} (hi : i < n) : (mkI k0 n)[i]?.getD 0 = k0 + i := by simp [mkI, List.getElem?_map, List.getElem?_range hi]
theorem mkI_step (k0 : Int) (zs : List Int) (k : Nat) (hk : k < zs.length) : (mkI k0 k ++ zs.drop k).set k (k0 + k) = mkI k0 (k + 1) ++ zs.drop (k + 1) := by
  rw [List.set_append_right _ _ (by rw [mkI_len]; exact Nat.le_refl _), mkI_len, Nat.sub_self]
  rw [List.drop_eq_getElem_cons hk, List.set_cons_zero]
  simp [mkI, List.range_succ]

set_option maxHeartbeats 1000000 in
theorem markI_any (base N c : Nat) (A : Option Addr) (zs : List Int) (k0 : Int) (w : World) (h : w.ownsRow base 3 1 (.slice A N c) N (zs.map (Value.int .i64))) (hN : N ≤ 1099511627776) (h0 : 0 ≤ k0) (h1 : k0 ≤ 1099511627776) :
    Calls Tryd.prog 31 #[.slice A N c, .int .i64 k0] w fun e w' => e = .returned (.int .i64 (k0 + N)) ∧ w'.ownsRow base 3 1 (.slice A N c) N ((mkI k0 N).map (Value.int .i64)) ∧ But (fun k => Value.ownBlock (.slice A N c) = some k) w w' := by
  have HZ := Lib.hid (show zs.length = N by have := h.1; simpa using this)
  have H0 := Lib.hid h
  clear h
  go_enter Tryd.func31, Tryd.ntmps31
  go_wp2
  go_loopw [1, 5] (fun kv i wr => ∃ k : Nat, k ≤ N ∧ i = .int .i64 k ∧ kv = .int .i64 (k0 + k) ∧ wr.ownsRow base 3 1 (.slice A N c) N ((mkI k0 k ++ zs.drop k).map (Value.int .i64)) ∧ But (fun k => Value.ownBlock (.slice A N c) = some k) w wr) (fun _ i _ => N - (intOf i).toNat)
  case atStart => exact ⟨0, by omega, rfl, by simp, by simpa [mkI] using H0.out, But.refl _ _⟩
  case round =>
    obtain ⟨k, hk, rfl, rfl, ho, hB⟩ := hrel
    by_cases hlt : k < N
    · have e0 : decide (k < N) = true := by simpa using hlt
      obtain ⟨g, cap, e, hg, hgl, -, -⟩ := own_head ho (by omega)
      injection e with e1 e3 e4
      subst e1 e4
      have hset := own_set (j := k) ho (.int .i64 (k0 + k))
      rw [← List.map_set, mkI_step k0 zs k (by rw [HZ.out]; exact hlt)] at hset
      have HS := Lib.hid hset
      have hcl := own_cell ho (i := k) (u := .int .i64 ((mkI k0 k ++ zs.drop k)[k]'(by rw [List.length_append, mkI_len, List.length_drop, HZ.out]; omega))) (by rw [List.getElem?_map, List.getElem?_eq_getElem]; rfl)
      have hfz := own_free ho k
      have hB' := hB.setCell (p := ⟨g, k, none⟩) (.inl rfl) (.int .i64 (k0 + k))
      clear hset ho
      generalize (mkI k0 k ++ zs.drop k)[k]'_ = u at hcl
      go_wp2
      go_roundw
      case rel => exact ⟨k + 1, by omega, by go_num, by go_num, HS.out, hB'⟩
      case measure => simp [intOf]; omega
    · have hkn : k = N := by omega
      subst hkn
      have HO := Lib.hid ho
      clear ho
      go_wp2
      go_ret
      exact ⟨rfl, by have := HO.out; rwa [List.drop_eq_nil_of_le (by rw [HZ.out]; exact Nat.le_refl _), List.append_nil] at this, hB⟩
end Go.Proofs.YtjpglpglgkopiaaDoor
