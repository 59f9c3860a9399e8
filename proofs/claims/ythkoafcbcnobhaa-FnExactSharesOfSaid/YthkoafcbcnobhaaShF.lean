/-
  What SharesOf answers, for the laws: plain facts.
  Conditions: as each theorem states them.
-/
import Derived.Test.YthkoafcbcnobhaaShI
import Derived.Test.YthkoafcbcnobhaaDrwD
namespace Go.Proofs.Ythkoafcbcnobhaa
open Go.RowKit
set_option linter.unusedVariables false
set_option linter.unusedSimpArgs false

theorem shL_eq {xs : List Dm} {bud : Int} (h : shIn xs bud) : shL xs bud = shR xs bud (3 * xs.length) := if_pos h
theorem stS_cases (xs : List Dm) (bud : Int) (ls : List Int) :
    (nxt xs ls (bud - sumTo xs ls ls.length) ls.length < 0 ∧ stS xs bud ls = ls) ∨
    (∃ j, j < ls.length ∧ nxt xs ls (bud - sumTo xs ls ls.length) ls.length = (j : Int) ∧ fit xs ls (bud - sumTo xs ls ls.length) j ∧ stS xs bud ls = ls.set j (lX ls j + 1)) := by
  by_cases h : nxt xs ls (bud - sumTo xs ls ls.length) ls.length < 0
  · exact .inl ⟨h, stS_skip rfl rfl rfl h⟩
  · have hr := nxt_range xs ls (bud - sumTo xs ls ls.length) ls.length
    obtain ⟨j, hj⟩ := Int.eq_ofNat_of_zero_le (show 0 ≤ nxt xs ls (bud - sumTo xs ls ls.length) ls.length by omega)
    have hf := nxt_fit xs ls (bud - sumTo xs ls ls.length) ls.length (by omega)
    rw [hj, Int.toNat_natCast] at hf
    exact .inr ⟨j, by omega, hj, hf, stS_take rfl rfl hj rfl⟩
theorem shR_sum {xs : List Dm} {bud : Int} (h : 0 ≤ bud) : ∀ k, sumTo xs (shR xs bud k) xs.length ≤ bud
  | 0 => by rw [shR, sum_none xs _ _ (Nat.le_refl _)]; exact h
  | k + 1 => by
    have ih := shR_sum (xs := xs) h k
    have hl := shR_len xs bud k
    rw [shR]
    rcases stS_cases xs bud (shR xs bud k) with ⟨-, e⟩ | ⟨j, hj, -, hf, e⟩
    · rw [e]; exact ih
    · rw [e, sum_set xs hj _ (by rw [← hl]; exact hj)]
      have := hf.2
      rw [hl] at this
      unfold stp at this
      omega
/-- The last state: nobody can get more. -/
theorem shR_end {xs : List Dm} {bud : Int} : nxt xs (shR xs bud (3 * xs.length)) (bud - sumTo xs (shR xs bud (3 * xs.length)) xs.length) xs.length < 0 := by
  have key : ∀ m, (∃ k, k ≤ m ∧ nxt xs (shR xs bud k) (bud - sumTo xs (shR xs bud k) xs.length) xs.length < 0) ∨ lsum (shR xs bud m) xs.length = (m : Int) - xs.length := by
    intro m
    induction m with
    | zero => exact .inr (by rw [shR, lsum_none _ _ (Nat.le_refl _)]; omega)
    | succ m ih =>
      rcases ih with ⟨k, hk, h⟩ | h
      · exact .inl ⟨k, by omega, h⟩
      · have hl := shR_len xs bud m
        rcases stS_cases xs bud (shR xs bud m) with ⟨h0, -⟩ | ⟨j, hj, -, hf, e⟩
        · rw [hl] at h0
          exact .inl ⟨m, by omega, h0⟩
        · refine .inr ?_
          rw [shR, e, lsum_set hj _ (by rw [← hl]; exact hj), h]
          omega
  have hstop : ∀ k, nxt xs (shR xs bud k) (bud - sumTo xs (shR xs bud k) xs.length) xs.length < 0 → ∀ m, shR xs bud (k + m) = shR xs bud k := fun k h => shR_stop (stS_skip (shR_len xs bud k) rfl rfl h)
  apply Classical.byContradiction
  intro hn
  rcases key (3 * xs.length) with ⟨k, hk, h⟩ | h
  · have := hstop k h (3 * xs.length - k)
    rw [show k + (3 * xs.length - k) = 3 * xs.length by omega] at this
    rw [this] at hn
    exact hn h
  · have hl := shR_len xs bud (3 * xs.length)
    have hy := shR_ys xs bud (3 * xs.length)
    rcases stS_cases xs bud (shR xs bud (3 * xs.length)) with ⟨h0, -⟩ | ⟨j, hj, -, hf, -⟩
    · rw [hl] at h0
      exact hn h0
    · have hjn : j < xs.length := by rw [← hl]; exact hj
      have h1 := hy j hjn
      have h2 := hf.1
      have := lsum_lt (j := j) (by omega) _ hy hjn
      omega
theorem shL_len {xs : List Dm} {bud : Int} (h : shIn xs bud) : (shL xs bud).length = xs.length := by rw [shL_eq h, shR_len]
theorem shL_ok {xs : List Dm} {bud : Int} (h : shIn xs bud) : shOk xs (shL xs bud) := ⟨h.1, (shL_len h).symm, by rw [shL_len h, shL_eq h]; exact shR_ys _ _ _⟩
theorem shL_cost {xs : List Dm} {bud : Int} (h : shIn xs bud) : costI xs (shL xs bud) = sumTo xs (shL xs bud) xs.length := by rw [costI_true (shL_ok h), shL_len h]
theorem shL_sum {xs : List Dm} {bud : Int} (h : shIn xs bud) : sumTo xs (shL xs bud) xs.length ≤ bud := by rw [shL_eq h]; exact shR_sum h.2.1 _
theorem shL_end {xs : List Dm} {bud : Int} (h : shIn xs bud) : ∀ j, j < xs.length → ¬ fit xs (shL xs bud) (bud - sumTo xs (shL xs bud) xs.length) j := by
  rw [shL_eq h]
  exact (nxt_none _ _ _ _).1 shR_end
theorem shL_full {xs : List Dm} {bud : Int} (h : shIn xs bud) : fullB xs (shL xs bud) bud = true :=
  fullB_true ⟨shL_ok h, by rw [shL_len h]; exact shL_sum h, h.2.2, by rw [shL_len h]; exact shL_end h⟩

/-- Equal demands: layers do not grow from one to the next. -/
theorem shR_mono (d : Dm) (n : Nat) (bud : Int) : ∀ k i, i + 1 < n → lX (shR (List.replicate n d) bud k) (i + 1) ≤ lX (shR (List.replicate n d) bud k) i
  | 0, i, hi => by
    have e : ∀ j, j < n → lX (shR (List.replicate n d) bud 0) j = -1 := fun j hj => by unfold lX shR; rw [List.getElem?_replicate, if_pos (by simpa using hj)]; rfl
    rw [e i (by omega), e (i + 1) hi]
    exact Int.le_refl _
  | k + 1, i, hi => by
    have ih := shR_mono d n bud k
    have hl := shR_len (List.replicate n d) bud k
    have hln : (List.replicate n d).length = n := by simp
    rw [hln] at hl
    have hd : ∀ j, j < n → dX (List.replicate n d) j = d := fun j hj => by unfold dX; rw [List.getElem?_replicate, if_pos hj]; rfl
    rw [shR]
    rcases stS_cases (List.replicate n d) bud (shR (List.replicate n d) bud k) with ⟨-, e⟩ | ⟨j, hj, hno, hf, e⟩
    · rw [e]; exact ih i hi
    · rw [e, lX_set hj, lX_set hj]
      rw [hl] at hj hno hf
      by_cases h1 : j = i + 1
      · subst h1
        rw [if_pos rfl, if_neg (by omega)]
        have h2 := ih i hi
        have h3 : lX (shR (List.replicate n d) bud k) i ≠ lX (shR (List.replicate n d) bud k) (i + 1) := fun he => by
          have hfi : fit (List.replicate n d) (shR (List.replicate n d) bud k) (bud - sumTo (List.replicate n d) (shR (List.replicate n d) bud k) n) i := by
            unfold fit at hf ⊢
            rw [hd _ hi] at hf
            rw [hd _ (by omega), he]
            exact hf
          rcases nxt_is (List.replicate n d) (shR (List.replicate n d) bud k) (bud - sumTo (List.replicate n d) (shR (List.replicate n d) bud k) n) n with ⟨b1, -⟩ | ⟨j', hj', b1, -, b3⟩
          · omega
          · have : j' = i + 1 := by omega
            subst this
            refine b3 i (by omega) hfi ?_
            refine .inr ⟨he, .inr ⟨?_, ?_⟩⟩
            · show (dX (List.replicate n d) i).we = (dX (List.replicate n d) (i + 1)).we
              rw [hd i (by omega), hd (i + 1) hi]
            · show (i : Int) < ((i + 1 : Nat) : Int)
              omega
        omega
      · rw [if_neg h1]
        split
        · rename_i h2
          subst h2
          have := ih j hi
          omega
        · exact ih i hi
theorem shL_mono {d : Dm} {bud : Int} {n : Nat} (h : shIn (List.replicate n d) bud) {i : Nat} (hi : i + 1 < n) : lX (shL (List.replicate n d) bud) (i + 1) ≤ lX (shL (List.replicate n d) bud) i := by
  rw [shL_eq h]
  exact shR_mono d n bud _ i hi

/-- What all cost with their greatest layers. -/
def hiTo (xs : List Dm) : Nat → Int
  | 0 => 0
  | k + 1 => hiTo xs k + (dX xs k).hi
theorem cst_le {x : Dm} (h : dOk x) (l : Int) : cst x l ≤ x.hi := by
  unfold dOk at h
  unfold cst
  split <;> (try split) <;> (try split) <;> omega
theorem hi_bd {xs : List Dm} (h : lOk xs) : ∀ k : Nat, k ≤ xs.length → 0 ≤ hiTo xs k ∧ hiTo xs k ≤ 9999 * k
  | 0, _ => by simp [hiTo]
  | k + 1, hk => by
    have ih := hi_bd h k (by omega)
    have hx : xs[k]? = some xs[k] := List.getElem?_eq_getElem (by omega)
    have hd := lOk_at h hx
    rw [← dX_of hx] at hd
    unfold dOk at hd
    unfold hiTo
    omega
theorem hi_sum {xs : List Dm} (h : lOk xs) (ls : List Int) : ∀ k : Nat, k ≤ xs.length → sumTo xs ls k ≤ hiTo xs k
  | 0, _ => by simp [hiTo, sumTo]
  | k + 1, hk => by
    have ih := hi_sum h ls k (by omega)
    have hx : xs[k]? = some xs[k] := List.getElem?_eq_getElem (by omega)
    have hd := cst_le (lOk_at h hx) (lX ls k)
    rw [← dX_of hx] at hd
    unfold hiTo sumTo
    omega
theorem hi_gap {xs : List Dm} (h : lOk xs) (ls : List Int) {j : Nat} : ∀ k : Nat, k ≤ xs.length → j < k → sumTo xs ls k + ((dX xs j).hi - cst (dX xs j) (lX ls j)) ≤ hiTo xs k
  | 0, _, hj => absurd hj (by omega)
  | k + 1, hk, hj => by
    have hx : xs[k]? = some xs[k] := List.getElem?_eq_getElem (by omega)
    have hd := cst_le (lOk_at h hx) (lX ls k)
    rw [← dX_of hx] at hd
    unfold hiTo sumTo
    by_cases e : j = k
    · subst e
      have := hi_sum h ls j (by omega)
      omega
    · have := hi_gap h ls k (by omega) (j := j) (by omega)
      omega
theorem hi_in {xs : List Dm} (h : lOk xs) : shIn xs (hiTo xs xs.length) := by
  have := hi_bd h xs.length (Nat.le_refl _)
  have := h.1
  exact ⟨h, by omega, by omega⟩
/-- With enough each one gets all. -/
theorem shL_most {xs : List Dm} (h : lOk xs) {j : Nat} (hj : j < xs.length) : lX (shL xs (hiTo xs xs.length)) j = 2 := by
  have hI := hi_in h
  have hn := shL_end hI j hj
  have hy := (shL_ok hI).2.2 j (by rw [shL_len hI]; exact hj)
  have hg := hi_gap h (shL xs (hiTo xs xs.length)) (j := j) xs.length (Nat.le_refl _) hj
  have hx : xs[j]? = some xs[j] := List.getElem?_eq_getElem hj
  have hd := lOk_at h hx
  rw [← dX_of hx] at hd
  have hc := cst_le hd (lX (shL xs (hiTo xs xs.length)) j + 1)
  apply Classical.byContradiction
  intro h2
  refine hn ⟨h2, ?_⟩
  unfold stp
  omega
/-- Without a budget nobody gets any. -/
theorem shL_zero {xs : List Dm} (h : lOk xs) {j : Nat} (hj : j < xs.length) : lX (shL xs 0) j = -1 := by
  have hI : shIn xs 0 := ⟨h, by omega, by omega⟩
  have hs := shL_sum hI
  have hy := (shL_ok hI).2.2 j (by rw [shL_len hI]; exact hj)
  have h1 := sum_step h (shL xs 0) xs.length (Nat.le_refl _) j hj
  have hx : xs[j]? = some xs[j] := List.getElem?_eq_getElem hj
  have hd := lOk_at h hx
  rw [← dX_of hx] at hd
  unfold dOk at hd
  generalize lX (shL xs 0) j = l at *
  apply Classical.byContradiction
  intro h2
  have : 0 < cst (dX xs j) l := by
    unfold cst
    rcases (show l = 0 ∨ l = 1 ∨ l = 2 by omega) with rfl | rfl | rfl <;> simp <;> omega
  omega

set_option maxHeartbeats 1000000 in
theorem sameI_same (A A' : Option Addr) (n c c' B : Nat) (zs : List Int) (w : World) (h : Ints w B A n zs) (h' : Ints w B A' n zs) (hn : n ≤ 1099511627776) :
    Calls Try.prog 27 #[.slice A n c, .slice A' n c'] w fun e w' => e = .returned (.bool true) ∧ Below w.heap.size w w' := by
  have e0 : ((n : Int) != n) = false := by simp
  go_enter Try.func27, Try.ntmps27
  go_wp2
  go_loopw [5] (fun i wr => ∃ k m : Nat, k ≤ n ∧ i = .int .i64 k ∧ wr = w.drewN m) (fun i _ => n - (intOf i).toNat)
  case atStart => exact ⟨0, 0, by omega, rfl, rfl⟩
  case round =>
    obtain ⟨k, m, hk, rfl, rfl⟩ := hrel
    by_cases hlt : k < n
    · obtain ⟨b, off, rfl, hbB, hcell⟩ := h.at_ (by omega)
      obtain ⟨b', off', rfl, hbB', hcell'⟩ := h'.at_ (by omega)
      have hck := hcell k hlt
      have hck' := hcell' k hlt
      clear hcell hcell'
      go_wp2
      go_quiet (fail)
      go_wp2
      go_roundw
      case rel => exact ⟨k + 1, _, by omega, by go_num, rfl⟩
      case measure => simp [intOf]; omega
    · go_wp2
      go_ret
      exact ⟨rfl, Below.drewN' (Below.refl _ _) m⟩
end Go.Proofs.Ythkoafcbcnobhaa
