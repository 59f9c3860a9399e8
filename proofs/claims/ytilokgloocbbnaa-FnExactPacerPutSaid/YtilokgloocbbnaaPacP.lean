/-
  Pacers: what a tick sends, how many ticks are needed; plain lists.
  No condition.
-/
import Derived.Test.YtilokgloocbbnaaPac
import Derived.Test.YtilokgloocbbnaaPacB
namespace Go.Proofs.Ytilokgloocbbnaa
open Go.RowKit
set_option linter.unusedVariables false
set_option linter.unusedSimpArgs false

/-- The sizes of packets together. -/
def szs : List Wt → Int
  | [] => 0
  | x :: xs => x.sz + szs xs
/-- How many are sent with a credit. -/
def tk : Int → List Wt → Nat
  | _, [] => 0
  | c, x :: xs => if x.sz ≤ c then tk (c - x.sz) xs + 1 else 0
/-- The credit behind the first k. -/
def cd (c : Int) (xs : List Wt) (k : Nat) : Int := c - szs (xs.take k)

theorem szs_append (xs ys : List Wt) : szs (xs ++ ys) = szs xs + szs ys := by
  induction xs with
  | nil => simp [szs]
  | cons x xs ih => simp [szs, ih]; omega
theorem cd_zero (c : Int) (xs : List Wt) : cd c xs 0 = c := by simp [cd, szs]
theorem cd_cons (c : Int) (x : Wt) (xs : List Wt) (k : Nat) : cd c (x :: xs) (k + 1) = cd (c - x.sz) xs k := by simp [cd, szs]; omega
theorem cd_succ {c : Int} {xs : List Wt} {k : Nat} {x : Wt} (hx : xs[k]? = some x) : cd c xs (k + 1) = cd c xs k - x.sz := by
  unfold cd
  have hlt := (List.getElem?_eq_some_iff.1 hx).1
  rw [List.take_succ_eq_append_getElem hlt, szs_append]
  have : xs[k] = x := (List.getElem?_eq_some_iff.1 hx).2
  rw [this]
  simp [szs]
  omega
theorem tk_le (c : Int) (xs : List Wt) : tk c xs ≤ xs.length := by
  induction xs generalizing c with
  | nil => simp [tk]
  | cons x xs ih => unfold tk; split; · have := ih (c - x.sz); simp; omega
                    · simp
theorem tk_succ {c : Int} {xs : List Wt} {k : Nat} {x : Wt} (hk : k ≤ tk c xs) (hx : xs[k]? = some x) (hs : x.sz ≤ cd c xs k) : k + 1 ≤ tk c xs := by
  induction xs generalizing c k with
  | nil => simp at hx
  | cons y ys ih =>
    cases k with
    | zero =>
      simp at hx
      subst hx
      rw [cd_zero] at hs
      unfold tk
      rw [if_pos hs]
      omega
    | succ k =>
      rw [cd_cons] at hs
      unfold tk at hk ⊢
      split at hk
      · rename_i h
        rw [if_pos h]
        have := ih (c := c - y.sz) (k := k) (by omega) (by simpa using hx) hs
        omega
      · omega
theorem tk_stop {c : Int} {xs : List Wt} {k : Nat} (hk : k ≤ tk c xs) (hs : ∀ x, xs[k]? = some x → cd c xs k < x.sz) : tk c xs = k := by
  induction xs generalizing c k with
  | nil => simp [tk] at hk ⊢; omega
  | cons y ys ih =>
    cases k with
    | zero =>
      have := hs y (by simp)
      rw [cd_zero] at this
      unfold tk
      rw [if_neg (by omega)]
    | succ k =>
      unfold tk at hk ⊢
      split at hk
      · rename_i h
        rw [if_pos h]
        have := ih (c := c - y.sz) (k := k) (by omega) (fun x hx => by
          have := hs x (by simpa using hx)
          rwa [cd_cons] at this)
        omega
      · omega
/-- What stands behind is greater than the credit. -/
theorem tk_next {c : Int} {xs : List Wt} {x : Wt} (hx : xs[tk c xs]? = some x) : cd c xs (tk c xs) < x.sz := by
  rcases Int.lt_or_le (cd c xs (tk c xs)) x.sz with h | h
  · exact h
  · have := tk_succ (Nat.le_refl _) hx h
    omega
theorem cd_tk {c : Int} {xs : List Wt} (hc : 0 ≤ c) : 0 ≤ cd c xs (tk c xs) := by
  induction xs generalizing c with
  | nil => simpa [tk, cd, szs] using hc
  | cons x xs ih =>
    unfold tk
    split
    · rw [cd_cons]
      exact ih (by omega)
    · rw [cd_zero]
      exact hc
theorem szs_nonneg {xs : List Wt} (h : ∀ x ∈ xs, 0 ≤ x.sz) : 0 ≤ szs xs := by
  induction xs with
  | nil => simp [szs]
  | cons x xs ih =>
    have h1 := h x (by simp)
    have h2 := ih fun y hy => h y (by simp [hy])
    simp [szs]
    omega
theorem okTo_mem {xs : List Wt} (h : okTo xs xs.length) {x : Wt} (hx : x ∈ xs) : wOk x := by
  obtain ⟨j, hj, rfl⟩ := List.mem_iff_getElem.1 hx
  exact (h j _ hj (List.getElem?_eq_getElem hj)).1
theorem okTo_drop {xs : List Wt} (h : okTo xs xs.length) (k : Nat) : okTo (xs.drop k) (xs.drop k).length := by
  intro j x hj hx
  rw [List.getElem?_drop] at hx
  obtain ⟨h1, h2⟩ := h (k + j) x (List.getElem?_eq_some_iff.1 hx).1 hx
  refine ⟨h1, fun y hj0 hy => h2 y (by omega) ?_⟩
  rw [List.getElem?_drop] at hy
  rwa [show k + j - 1 = k + (j - 1) by omega]
theorem okTo_take {xs : List Wt} (h : okTo xs xs.length) (k : Nat) : okTo (xs.take k) (xs.take k).length := by
  intro j x hj hx
  have hjk : j < k ∧ j < xs.length := by rw [List.length_take] at hj; omega
  rw [List.getElem?_take, if_pos hjk.1] at hx
  obtain ⟨h1, h2⟩ := h j x hjk.2 hx
  refine ⟨h1, fun y hj0 hy => h2 y hj0 ?_⟩
  rwa [List.getElem?_take, if_pos (by omega)] at hy

/-- The credit of a tick, before and behind; what waits behind it. -/
def c0 (ea cr : Int) : Int := min (cr + ea) 3000
def nx (ea cr : Int) (xs : List Wt) : Int := cd (c0 ea cr) xs (tk (c0 ea cr) xs)
def rs (ea cr : Int) (xs : List Wt) : List Wt := xs.drop (tk (c0 ea cr) xs)
def sn (ea cr : Int) (xs : List Wt) : List Wt := xs.take (tk (c0 ea cr) xs)
theorem sn_rs (ea cr : Int) (xs : List Wt) : sn ea cr xs ++ rs ea cr xs = xs := List.take_append_drop _ _
theorem cd_bd {c : Int} {xs : List Wt} {k : Nat} (hk : k ≤ tk c xs) (hc : 0 ≤ c) (hx : ∀ x ∈ xs, 0 ≤ x.sz) : 0 ≤ cd c xs k ∧ cd c xs k ≤ c := by
  constructor
  · have h1 := cd_tk (xs := xs) hc
    have h2 : szs (xs.take k) ≤ szs (xs.take (tk c xs)) := by
      have : xs.take (tk c xs) = xs.take k ++ (xs.take (tk c xs)).drop k := by
        have h2 := List.take_append_drop k (xs.take (tk c xs))
        rw [List.take_take, Nat.min_eq_left hk] at h2
        exact h2.symm
      rw [this, szs_append]
      have := szs_nonneg (xs := (xs.take (tk c xs)).drop k) fun x hx' => hx x (List.mem_of_mem_take (List.mem_of_mem_drop hx'))
      omega
    unfold cd at h1 ⊢
    omega
  · have := szs_nonneg (xs := xs.take k) fun x hx' => hx x (List.mem_of_mem_take hx')
    unfold cd
    omega
theorem pOk_next {ea cr : Int} {xs : List Wt} (h : pOk ea cr xs) : pOk ea (nx ea cr xs) (rs ea cr xs) := by
  obtain ⟨h1, h2, h3, h4, h5, h6⟩ := h
  have hc : 0 ≤ c0 ea cr ∧ c0 ea cr ≤ 3000 := by unfold c0; omega
  refine ⟨h1, h2, cd_tk hc.1, ?_, by unfold rs; simp; omega, okTo_drop h6 _⟩
  have := szs_nonneg (xs := xs.take (tk (c0 ea cr) xs)) fun x hx => by
    have := okTo_mem h6 (List.mem_of_mem_take hx)
    have := this.2.2.2.2.1
    omega
  unfold nx cd
  omega

/-- The ticks that are needed: f more at most, n are over. -/
def tcks (ea : Int) : Nat → Int → List Wt → Nat → Int
  | _, _, [], n => n
  | 0, _, _ :: _, _ => -1
  | f + 1, cr, x :: xs, n => tcks ea f (nx ea cr (x :: xs)) (rs ea cr (x :: xs)) (n + 1)
theorem tcks_nil (ea : Int) (f : Nat) (cr : Int) (n : Nat) : tcks ea f cr [] n = n := by cases f <;> rfl
theorem tcks_zero (ea : Int) (cr : Int) {xs : List Wt} (n : Nat) (h : xs ≠ []) : tcks ea 0 cr xs n = -1 := by
  cases xs with
  | nil => exact absurd rfl h
  | cons x xs => rfl
theorem tcks_succ (ea : Int) (f : Nat) (cr : Int) {xs : List Wt} (n : Nat) (h : xs ≠ []) : tcks ea (f + 1) cr xs n = tcks ea f (nx ea cr xs) (rs ea cr xs) (n + 1) := by
  cases xs with
  | nil => exact absurd rfl h
  | cons x xs => rfl
theorem tcks_ge (ea : Int) : ∀ (f : Nat) (cr : Int) (xs : List Wt) (n : Nat), tcks ea f cr xs n = -1 ∨ (n ≤ tcks ea f cr xs n ∧ tcks ea f cr xs n ≤ n + f) := by
  intro f
  induction f with
  | zero =>
    intro cr xs n
    cases xs with
    | nil => right; simp [tcks]
    | cons x xs => left; rfl
  | succ f ih =>
    intro cr xs n
    cases xs with
    | nil => right; simp [tcks]; omega
    | cons x xs =>
      rcases ih (nx ea cr (x :: xs)) (rs ea cr (x :: xs)) (n + 1) with h | h
      · left; exact h
      · right
        unfold tcks
        omega
theorem tcks_same (ea : Int) (f : Nat) (cr : Int) (xs : List Wt) (n : Nat) : tcks ea f cr xs n = n ↔ xs = [] := by
  constructor
  · intro h
    cases xs with
    | nil => rfl
    | cons x xs =>
      exfalso
      cases f with
      | zero => simp [tcks] at h <;> omega
      | succ f =>
        rcases tcks_ge ea f (nx ea cr (x :: xs)) (rs ea cr (x :: xs)) (n + 1) with h' | h' <;> simp only [tcks] at h <;> omega
  · rintro rfl
    exact tcks_nil ..
noncomputable def ticks (ea cr : Int) (xs : List Wt) : Int := if pB ea cr xs = true then tcks ea 200 cr xs 0 else -1

/-! More that waits needs no less time. -/
/-- A tick's end: the credit, and what waits still. -/
def run : Int → List Wt → Int × List Wt
  | c, [] => (c, [])
  | c, x :: xs => if x.sz ≤ c then run (c - x.sz) xs else (c, x :: xs)
theorem run_eq (c : Int) (xs : List Wt) : run c xs = (cd c xs (tk c xs), xs.drop (tk c xs)) := by
  induction xs generalizing c with
  | nil => simp [run, tk, cd, szs]
  | cons x xs ih =>
    unfold run tk
    split
    · rw [ih, cd_cons]; simp
    · rw [cd_zero]; simp
theorem run_nil (c : Int) : run c [] = (c, []) := rfl
theorem run_yes {c : Int} {x : Wt} (xs : List Wt) (h : x.sz ≤ c) : run c (x :: xs) = run (c - x.sz) xs := by rw [run, if_pos h]
theorem run_no {c : Int} {x : Wt} (xs : List Wt) (h : ¬ x.sz ≤ c) : run c (x :: xs) = (c, x :: xs) := by rw [run, if_neg h]
theorem run_rest (c : Int) (xs : List Wt) : (run c xs).1 - szs (run c xs).2 = c - szs xs := by
  induction xs generalizing c with
  | nil => rfl
  | cons x xs ih =>
    by_cases h : x.sz ≤ c
    · rw [run_yes _ h, ih]; simp [szs]; omega
    · rw [run_no _ h]
theorem run_block {cB : Int} (D : List Wt) (x : Wt) (A : List Wt) (h : cB - szs D < x.sz) : ∃ D', (run cB (D ++ x :: A)).2 = D' ++ x :: A ∧ (run cB (D ++ x :: A)).1 - szs D' = cB - szs D := by
  induction D generalizing cB with
  | nil =>
    simp only [szs] at h
    exact ⟨[], by (rw [List.nil_append, run_no _ (by omega)]; try rfl), by rw [List.nil_append, run_no _ (by omega)]⟩
  | cons d D ih =>
    simp only [szs] at h
    by_cases hd : d.sz ≤ cB
    · obtain ⟨D', h1, h2⟩ := ih (cB := cB - d.sz) (by omega)
      exact ⟨D', by rw [List.cons_append, run_yes _ hd, h1], by rw [List.cons_append, run_yes _ hd, h2]; simp only [szs]; omega⟩
    · exact ⟨d :: D, by (rw [List.cons_append, run_no _ hd]; try rfl), by rw [List.cons_append, run_no _ hd]⟩
theorem run_late (A : List Wt) : ∀ (D : List Wt) (cA cB : Int), cB - szs D ≤ cA → ∃ D', (run cB (D ++ A)).2 = D' ++ (run cA A).2 ∧ (run cB (D ++ A)).1 - szs D' ≤ (run cA A).1 := by
  induction A with
  | nil =>
    intro D cA cB h
    refine ⟨(run cB D).2, by rw [List.append_nil, run_nil, List.append_nil], ?_⟩
    rw [List.append_nil, run_nil, run_rest]
    exact h
  | cons x A ih =>
    intro D cA cB h
    by_cases hx : x.sz ≤ cA
    · obtain ⟨D', h1, h2⟩ := ih (D ++ [x]) (cA - x.sz) cB (by rw [szs_append]; simp [szs]; omega)
      rw [List.append_assoc] at h1 h2
      exact ⟨D', by rw [run_yes _ hx]; exact h1, by rw [run_yes _ hx]; exact h2⟩
    · obtain ⟨D', h1, h2⟩ := run_block (cB := cB) D x A (by omega)
      exact ⟨D', by rw [run_no _ hx]; exact h1, by rw [run_no _ hx, h2]; exact h⟩
/-- B has y besides, and is behind. -/
def Late (y : Wt) (cA : Int) (A : List Wt) (cB : Int) (B : List Wt) : Prop := (∃ P S, A = P ++ S ∧ B = P ++ y :: S ∧ cA = cB) ∨ ∃ D, B = D ++ A ∧ cB - szs D ≤ cA
theorem run_early {y : Wt} (hy : 0 ≤ y.sz) (S : List Wt) : ∀ (P : List Wt) (c : Int), Late y (run c (P ++ S)).1 (run c (P ++ S)).2 (run c (P ++ y :: S)).1 (run c (P ++ y :: S)).2 := by
  intro P
  induction P with
  | nil =>
    intro c
    right
    obtain ⟨D', h1, h2⟩ := run_late S [y] c c (by simp [szs]; omega)
    exact ⟨D', h1, h2⟩
  | cons x P ih =>
    intro c
    by_cases hx : x.sz ≤ c
    · rw [List.cons_append, List.cons_append, run_yes _ hx, run_yes _ hx]
      exact ih _
    · rw [List.cons_append, List.cons_append, run_no _ hx, run_no _ hx]
      exact .inl ⟨x :: P, S, rfl, rfl, rfl⟩
theorem Late.next {y : Wt} (hy : 0 ≤ y.sz) {ea cA cB : Int} {A B : List Wt} (hB : ∀ x ∈ B, 0 ≤ x.sz) (h : Late y cA A cB B) : Late y (nx ea cA A) (rs ea cA A) (nx ea cB B) (rs ea cB B) := by
  have key : ∀ (c : Int) (xs : List Wt), nx ea c xs = (run (c0 ea c) xs).1 ∧ rs ea c xs = (run (c0 ea c) xs).2 := fun c xs => by rw [run_eq]; exact ⟨rfl, rfl⟩
  rw [(key cA A).1, (key cA A).2, (key cB B).1, (key cB B).2]
  rcases h with ⟨P, S, rfl, rfl, rfl⟩ | ⟨D, rfl, hc⟩
  · exact run_early hy S P _
  · right
    have hD : 0 ≤ szs D := szs_nonneg fun x hx => hB x (by simp [hx])
    exact run_late A D _ _ (by unfold c0; omega)
theorem Late.nil {y : Wt} {cA cB : Int} {A : List Wt} (h : Late y cA A cB []) : A = [] := by
  rcases h with ⟨P, S, _, h, _⟩ | ⟨D, h, _⟩
  · cases P <;> cases h
  · exact (List.append_eq_nil_iff.1 h.symm).2
theorem tcks_late {y : Wt} (hy : 0 ≤ y.sz) (ea : Int) : ∀ (f : Nat) (cA : Int) (A : List Wt) (cB : Int) (B : List Wt) (n : Nat), Late y cA A cB B → (∀ x ∈ B, 0 ≤ x.sz) → tcks ea f cB B n = -1 ∨ tcks ea f cA A n ≤ tcks ea f cB B n := by
  intro f
  induction f with
  | zero =>
    intro cA A cB B n h hB
    cases B with
    | nil => rw [h.nil]; right; exact Int.le_refl _
    | cons b B => left; rfl
  | succ f ih =>
    intro cA A cB B n h hB
    cases B with
    | nil => rw [h.nil]; right; rw [tcks_nil, tcks_nil]; exact Int.le_refl _
    | cons b B =>
      cases A with
      | nil =>
        rcases tcks_ge ea (f + 1) cB (b :: B) n with h1 | h1
        · left; exact h1
        · right; rw [tcks_nil]; omega
      | cons a A =>
        rw [tcks_succ _ _ _ _ (by simp), tcks_succ _ _ _ _ (by simp)]
        exact ih _ _ _ _ _ (h.next hy hB) fun x hx => hB x (List.mem_of_mem_drop hx)
theorem ticks_put {ea cr : Int} {xs : List Wt} {y : Wt} {k : Nat} (hp : pOk ea cr xs) (hq : pOk ea cr (putAt xs k y)) : ticks ea cr (putAt xs k y) = -1 ∨ ticks ea cr xs ≤ ticks ea cr (putAt xs k y) := by
  unfold ticks
  rw [if_pos (pB_true.2 hp), if_pos (pB_true.2 hq)]
  have hs : ∀ x ∈ putAt xs k y, 0 ≤ x.sz := fun x hx => by
    have := okTo_mem hq.2.2.2.2.2 hx
    have := this.2.2.2.2.1
    omega
  exact tcks_late (hs y (by simp [putAt])) ea 200 _ _ _ _ 0 (.inl ⟨xs.take k, xs.drop k, (List.take_append_drop _ _).symm, rfl, rfl⟩) hs

/-- What is put lies among the valid. -/
theorem okTo_put {xs : List Wt} {x : Wt} {k : Nat} (h : okTo xs xs.length) (hx : wOk x) (hk : Lead xs x.cl k) : okTo (putAt xs k x) (putAt xs k x).length := by
  obtain ⟨h1, h2, h3⟩ := hk
  have hlen : (xs.take k).length = k := by rw [List.length_take]; omega
  have at0 : ∀ j, j < k → (putAt xs k x)[j]? = xs[j]? := fun j hj => by
    unfold putAt
    rw [List.getElem?_append_left (by omega), List.getElem?_take, if_pos hj]
  have at1 : (putAt xs k x)[k]? = some x := by
    unfold putAt
    rw [List.getElem?_append_right (by omega), hlen]
    simp
  have at2 : ∀ j, k < j → (putAt xs k x)[j]? = xs[j - 1]? := fun j hj => by
    unfold putAt
    rw [List.getElem?_append_right (by omega), hlen, show j - k = (j - k - 1) + 1 by omega, List.getElem?_cons_succ, List.getElem?_drop]
    congr 1
    omega
  intro j z hj hz
  rcases Nat.lt_trichotomy j k with hlt | rfl | hlt
  · rw [at0 j hlt] at hz
    obtain ⟨a, b⟩ := h j z (by omega) hz
    refine ⟨a, fun y hj0 hy => b y hj0 ?_⟩
    rwa [at0 (j - 1) (by omega)] at hy
  · rw [at1] at hz
    injection hz with hz
    subst hz
    refine ⟨hx, fun y hj0 hy => ?_⟩
    rw [at0 (j - 1) (by omega)] at hy
    exact h2 (j - 1) y (by omega) hy
  · rw [at2 j hlt] at hz
    have hjl : j - 1 < xs.length := (List.getElem?_eq_some_iff.1 hz).1
    obtain ⟨a, b⟩ := h (j - 1) z hjl hz
    refine ⟨a, fun y hj0 hy => ?_⟩
    by_cases e : j - 1 = k
    · rw [e, at1] at hy
      injection hy with hy
      subst hy
      rw [e] at hz
      exact Int.le_of_lt (h3 z hz)
    · rw [at2 (j - 1) (by omega)] at hy
      exact b y (by omega) hy
theorem pOk_put {ea cr : Int} {xs : List Wt} {x : Wt} {k : Nat} (h : PutIn ea cr xs x) (hk : Lead xs x.cl k) : pOk ea cr (putAt xs k x) := by
  obtain ⟨⟨h1, h2, h3, h4, h5, h6⟩, hx, hne⟩ := h
  exact ⟨h1, h2, h3, h4, by rw [putAt_len hk.1]; omega, okTo_put h6 hx hk⟩

/-! Queues by class. -/
def cls (xs : List Wt) (i : Nat) : List Wt := xs.filter fun x => decide (x.cl = i)
def join (q : Nat → List Wt) : List Wt := q 0 ++ q 1 ++ q 2
theorem cls_snoc (xs : List Wt) (x : Wt) (i : Nat) : cls (xs ++ [x]) i = if x.cl = i then cls xs i ++ [x] else cls xs i := by
  unfold cls
  rw [List.filter_append]
  by_cases h : x.cl = i <;> simp [h]
/-- Ascending packets are the join of their classes. -/
def Asc (xs : List Wt) : Prop := xs.Pairwise fun a b => a.cl ≤ b.cl
theorem okTo_asc {xs : List Wt} (h : okTo xs xs.length) : Asc xs := by
  induction xs with
  | nil => exact List.Pairwise.nil
  | cons x xs ih =>
    have h' := okTo_drop h 1
    simp only [List.drop_succ_cons, List.drop_zero] at h'
    refine List.Pairwise.cons ?_ (ih h')
    have key : ∀ (j : Nat) (y : Wt), xs[j]? = some y → x.cl ≤ y.cl := by
      intro j
      induction j with
      | zero =>
        intro y hy
        have hl := (List.getElem?_eq_some_iff.1 hy).1
        exact (h 1 y (by simp; omega) (by simpa using hy)).2 x (by omega) (by simp)
      | succ j ihj =>
        intro y hy
        have hl := (List.getElem?_eq_some_iff.1 hy).1
        have hz := ihj _ (List.getElem?_eq_getElem (show j < xs.length by omega))
        have := (h (j + 2) y (by simp; omega) (by simpa using hy)).2 (xs[j]'(by omega)) (by omega) (by simp)
        omega
    intro y hy
    obtain ⟨j, hj, rfl⟩ := List.mem_iff_getElem.1 hy
    exact key j _ (List.getElem?_eq_getElem hj)
theorem filter_all {α : Type} {p : α → Bool} {xs : List α} (h : ∀ x ∈ xs, p x = true) : xs.filter p = xs := List.filter_eq_self.2 h
theorem filter_none {α : Type} {p : α → Bool} {xs : List α} (h : ∀ x ∈ xs, p x = false) : xs.filter p = [] := List.filter_eq_nil_iff.2 fun x hx => by simp [h x hx]
theorem join_cls {xs : List Wt} (ha : Asc xs) (hb : ∀ x ∈ xs, 0 ≤ x.cl ∧ x.cl ≤ 2) : join (cls xs) = xs := by
  unfold join
  induction xs with
  | nil => rfl
  | cons x xs ih =>
    have ha' := List.pairwise_cons.1 ha
    have hi := ih ha'.2 fun y hy => hb y (by simp [hy])
    have hx := hb x (by simp)
    have no : ∀ i : Nat, (i : Int) < x.cl → cls xs i = [] := fun i hi => filter_none fun y hy => decide_eq_false (by have := ha'.1 y hy; omega)
    have co : ∀ i : Nat, cls (x :: xs) i = if x.cl = i then x :: cls xs i else cls xs i := fun i => by unfold cls; by_cases h : x.cl = i <;> simp [h]
    have hcase : x.cl = 0 ∨ x.cl = 1 ∨ x.cl = 2 := by omega
    rcases hcase with h | h | h
    · rw [co 0, co 1, co 2, if_pos (by omega), if_neg (by omega), if_neg (by omega)]
      simpa using hi
    · have n0 := no 0 (by omega)
      rw [co 0, co 1, co 2, if_neg (by omega), if_pos (by omega), if_neg (by omega)]
      rw [n0] at hi ⊢
      simpa using hi
    · have n0 := no 0 (by omega)
      have n1 := no 1 (by omega)
      rw [co 0, co 1, co 2, if_neg (by omega), if_neg (by omega), if_pos (by omega)]
      rw [n0, n1] at hi ⊢
      simpa using hi
theorem asc_of_join (q : Nat → List Wt) (h : ∀ i, i < 3 → ∀ x ∈ q i, x.cl = i) : Asc (join q) := by
  have same : ∀ i, i < 3 → Asc (q i) := fun i hi => List.pairwise_iff_forall_sublist.2 fun {a b} hs => by
    have h1 := h i hi a (hs.subset (by simp))
    have h2 := h i hi b (hs.subset (by simp))
    omega
  unfold join Asc
  rw [List.pairwise_append, List.pairwise_append]
  refine ⟨⟨same 0 (by omega), same 1 (by omega), fun a ha b hb => ?_⟩, same 2 (by omega), fun a ha b hb => ?_⟩
  · have h1 := h 0 (by omega) a ha
    have h2 := h 1 (by omega) b hb
    omega
  · have h2 := h 2 (by omega) b hb
    rcases List.mem_append.1 ha with ha | ha
    · have h1 := h 0 (by omega) a ha
      omega
    · have h1 := h 1 (by omega) a ha
      omega
theorem cls_mem {xs : List Wt} {i : Nat} {x : Wt} (h : x ∈ cls xs i) : x.cl = i := by
  have := (List.mem_filter.1 h).2
  simpa using this
/-- The queues behind a put, joined. -/
theorem join_put {xs : List Wt} {x : Wt} {k : Nat} (ha : Asc xs) (hb : ∀ y ∈ xs, 0 ≤ y.cl ∧ y.cl ≤ 2) (hx : 0 ≤ x.cl ∧ x.cl ≤ 2) (hk : Lead xs x.cl k) : join (cls (xs ++ [x])) = putAt xs k x := by
  have hlo : ∀ y ∈ xs.take k, y.cl ≤ x.cl := fun y hy => by
    obtain ⟨j, hj, rfl⟩ := List.mem_iff_getElem.1 hy
    have hj' : j < k ∧ j < xs.length := by rw [List.length_take] at hj; omega
    refine hk.2.1 j _ hj'.1 ?_
    rw [List.getElem_take]
    exact List.getElem?_eq_getElem hj'.2
  have hhi : ∀ y ∈ xs.drop k, x.cl < y.cl := by
    have hp : Asc (xs.drop k) := List.Pairwise.sublist (List.drop_sublist _ _) ha
    cases hd : xs.drop k with
    | nil => simp
    | cons z zs =>
      have hz : xs[k]? = some z := by
        have : (xs.drop k)[0]? = some z := by rw [hd]; rfl
        rwa [List.getElem?_drop] at this
      have h1 := hk.2.2 z hz
      rw [hd] at hp
      have h2 := (List.pairwise_cons.1 hp).1
      intro y hy
      rcases List.mem_cons.1 hy with rfl | hy
      · exact h1
      · have := h2 y hy
        omega
  have e : ∀ i, cls (xs ++ [x]) i = cls (putAt xs k x) i := by
    intro i
    rw [cls_snoc]
    unfold putAt
    have hc : cls xs i = cls (xs.take k) i ++ cls (xs.drop k) i := by unfold cls; rw [← List.filter_append, List.take_append_drop]
    have hr : cls (xs.take k ++ x :: xs.drop k) i = cls (xs.take k) i ++ (if x.cl = i then x :: cls (xs.drop k) i else cls (xs.drop k) i) := by
      unfold cls
      rw [List.filter_append]
      by_cases h : x.cl = i <;> simp [h]
    rw [hr, hc]
    by_cases h : x.cl = i
    · rw [if_pos h, if_pos h]
      have : cls (xs.drop k) i = [] := filter_none fun y hy => decide_eq_false (by have := hhi y hy; omega)
      rw [this]
      simp
    · rw [if_neg h, if_neg h]
  have ha' : Asc (putAt xs k x) := by
    unfold putAt Asc
    refine List.pairwise_append.2 ⟨List.Pairwise.sublist (List.take_sublist _ _) ha, List.pairwise_cons.2 ⟨fun y hy => Int.le_of_lt (hhi y hy), List.Pairwise.sublist (List.drop_sublist _ _) ha⟩, fun a ha b hb => ?_⟩
    have h1 := hlo a ha
    rcases List.mem_cons.1 hb with rfl | hb
    · exact h1
    · have := hhi b hb
      omega
  have hb' : ∀ y ∈ putAt xs k x, 0 ≤ y.cl ∧ y.cl ≤ 2 := by
    unfold putAt
    intro y hy
    rcases List.mem_append.1 hy with hy | hy
    · exact hb y (List.mem_of_mem_take hy)
    · rcases List.mem_cons.1 hy with rfl | hy
      · exact hx
      · exact hb y (List.mem_of_mem_drop hy)
  have : join (cls (xs ++ [x])) = join (cls (putAt xs k x)) := by unfold join; rw [e 0, e 1, e 2]
  rw [this]
  exact join_cls ha' hb'
end Go.Proofs.Ytilokgloocbbnaa
