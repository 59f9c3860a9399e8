/-
  The tree of shares: the plain model, what lies in memory, and which demand it finds first.
  Conditions: as each theorem states them.
-/
import Derived.Test.YthkoafcbcnobhaaShL
namespace Go.Proofs.Ythkoafcbcnobhaa
open Go.RowKit
set_option linter.unusedVariables false
set_option linter.unusedSimpArgs false

/-- A node's place, layer and weight. -/
structure El where
  pl : Int
  la : Int
  we : Int
/-- Is x on the left of y? -/
def El.lt (x y : El) : Prop := x.la < y.la ∨ (x.la = y.la ∧ (y.we < x.we ∨ (x.we = y.we ∧ x.pl < y.pl)))
instance (x y : El) : Decidable (El.lt x y) := by unfold El.lt; infer_instance
theorem El.asymm {x y : El} (h : x.lt y) : ¬ y.lt x := by unfold El.lt at *; omega
theorem El.trans {x y z : El} (h : x.lt y) (k : y.lt z) : x.lt z := by unfold El.lt at *; omega
theorem El.total {x y : El} (h : ¬ x.lt y) (k : ¬ y.lt x) : x.pl = y.pl := by unfold El.lt at *; omega

inductive Tr where
  | nil
  | node (g : Nat) (x : El) (l r : Tr)
def Tr.p : Tr → Value
  | .nil => .pointer none
  | .node g _ _ _ => .pointer (some ⟨g, 0, none⟩)
def Tr.bs : Tr → List Nat
  | .nil => []
  | .node g _ l r => g :: (l.bs ++ r.bs)
def Tr.els : Tr → List El
  | .nil => []
  | .node _ x l r => x :: (l.els ++ r.els)
def Tr.ins (g : Nat) (x : El) : Tr → Tr
  | .nil => .node g x .nil .nil
  | .node g' y l r => if x.lt y then .node g' y (l.ins g x) r else .node g' y l (r.ins g x)
def Tr.first (f : Int → Bool) : Tr → Int
  | .nil => -1
  | .node _ x l r => if 0 ≤ l.first f then l.first f else if f x.pl then x.pl else r.first f
def Tr.ok : Tr → Prop
  | .nil => True
  | .node _ x l r => (∀ e ∈ l.els, e.lt x) ∧ (∀ e ∈ r.els, ¬ e.lt x) ∧ l.ok ∧ r.ok

theorem Tr.mem_ins (g : Nat) (x : El) : ∀ (t : Tr) (e : El), e ∈ (t.ins g x).els ↔ e = x ∨ e ∈ t.els
  | .nil, e => by simp [Tr.ins, Tr.els]
  | .node g' y l r, e => by
    have hl := Tr.mem_ins g x l e
    have hr := Tr.mem_ins g x r e
    unfold Tr.ins
    split <;> simp only [Tr.els, List.mem_cons, List.mem_append, hl, hr]
    · constructor
      · rintro (h | (h | h) | h) <;> simp [h]
      · rintro (h | h | h | h) <;> simp [h]
    · constructor
      · rintro (h | h | h | h) <;> simp [h]
      · rintro (h | h | h | h) <;> simp [h]
theorem Tr.bs_ins (g : Nat) (x : El) : ∀ (t : Tr) (k : Nat), k ∈ (t.ins g x).bs ↔ k = g ∨ k ∈ t.bs
  | .nil, k => by simp [Tr.ins, Tr.bs]
  | .node g' y l r, k => by
    have hl := Tr.bs_ins g x l k
    have hr := Tr.bs_ins g x r k
    unfold Tr.ins
    split <;> simp only [Tr.bs, List.mem_cons, List.mem_append, hl, hr]
    · constructor
      · rintro (h | (h | h) | h) <;> simp [h]
      · rintro (h | h | h | h) <;> simp [h]
    · constructor
      · rintro (h | h | h | h) <;> simp [h]
      · rintro (h | h | h | h) <;> simp [h]
theorem Tr.nodup_ins (g : Nat) (x : El) : ∀ (t : Tr), t.bs.Nodup → g ∉ t.bs → (t.ins g x).bs.Nodup
  | .nil, _, _ => by simp [Tr.ins, Tr.bs]
  | .node g' y l r, hn, hg => by
    simp only [Tr.bs, List.nodup_cons, List.nodup_append, List.mem_append, List.mem_cons, not_or] at hn hg
    obtain ⟨⟨n1, n2⟩, n3, n4, n5⟩ := hn
    obtain ⟨g1, g2, g3⟩ := hg
    have hl := Tr.nodup_ins g x l n3 g2
    have hr := Tr.nodup_ins g x r n4 g3
    unfold Tr.ins
    split <;> simp only [Tr.bs, List.nodup_cons, List.nodup_append, List.mem_append, not_or, Tr.bs_ins]
    · refine ⟨⟨⟨fun e => g1 e.symm, n1⟩, n2⟩, hl, n4, ?_⟩
      rintro a (rfl | ha) b hb
      · exact fun e => g3 (e ▸ hb)
      · exact n5 a ha b hb
    · refine ⟨⟨n1, fun e => g1 e.symm, n2⟩, n3, hr, ?_⟩
      rintro a ha b (rfl | hb)
      · exact fun e => g2 (e ▸ ha)
      · exact n5 a ha b hb
theorem Tr.ok_ins (g : Nat) (x : El) : ∀ (t : Tr), t.ok → (t.ins g x).ok
  | .nil, _ => by simp [Tr.ins, Tr.ok, Tr.els]
  | .node g' y l r, h => by
    obtain ⟨h1, h2, h3, h4⟩ := h
    unfold Tr.ins
    split
    · rename_i hc
      refine ⟨fun e he => ?_, h2, Tr.ok_ins g x l h3, h4⟩
      rcases (Tr.mem_ins g x l e).1 he with rfl | h
      · exact hc
      · exact h1 e h
    · rename_i hc
      refine ⟨h1, fun e he => ?_, h3, Tr.ok_ins g x r h4⟩
      rcases (Tr.mem_ins g x r e).1 he with rfl | h
      · exact hc
      · exact h2 e h
/-- What 'first' finds: the leftmost that fits. -/
theorem Tr.first_is (f : Int → Bool) : ∀ t : Tr, t.ok → (∀ e ∈ t.els, 0 ≤ e.pl) →
    (t.first f = -1 ∧ ∀ e ∈ t.els, f e.pl = false) ∨ (∃ e ∈ t.els, t.first f = e.pl ∧ f e.pl = true ∧ ∀ e' ∈ t.els, f e'.pl = true → ¬ e'.lt e)
  | .nil, _, _ => .inl ⟨rfl, fun e h => by simp [Tr.els] at h⟩
  | .node g x l r, ⟨h1, h2, h3, h4⟩, hp => by
    have hpl : ∀ e ∈ l.els, 0 ≤ e.pl := fun e he => hp e (by simp [Tr.els, he])
    have hpr : ∀ e ∈ r.els, 0 ≤ e.pl := fun e he => hp e (by simp [Tr.els, he])
    rcases Tr.first_is f l h3 hpl with ⟨a1, a2⟩ | ⟨e, he, b1, b2, b3⟩
    · by_cases hx : f x.pl = true
      · refine .inr ⟨x, by simp [Tr.els], by unfold Tr.first; rw [a1, if_neg (by omega), if_pos hx], hx, fun e' he' hf => ?_⟩
        simp only [Tr.els, List.mem_cons, List.mem_append] at he'
        rcases he' with rfl | he' | he'
        · exact fun h => El.asymm h h
        · rw [a2 e' he'] at hf; cases hf
        · exact h2 e' he'
      · have hxf : f x.pl = false := by simpa using hx
        rcases Tr.first_is f r h4 hpr with ⟨c1, c2⟩ | ⟨e, he, c1, c2, c3⟩
        · refine .inl ⟨by unfold Tr.first; rw [a1, if_neg (by omega), hxf, if_neg (by simp), c1], fun e he => ?_⟩
          simp only [Tr.els, List.mem_cons, List.mem_append] at he
          rcases he with rfl | he | he
          · exact hxf
          · exact a2 e he
          · exact c2 e he
        · refine .inr ⟨e, by simp [Tr.els, he], by unfold Tr.first; rw [a1, if_neg (by omega), hxf, if_neg (by simp), c1], c2, fun e' he' hf => ?_⟩
          simp only [Tr.els, List.mem_cons, List.mem_append] at he'
          rcases he' with rfl | he' | he'
          · rw [hxf] at hf; cases hf
          · rw [a2 e' he'] at hf; cases hf
          · exact c3 e' he' hf
    · refine .inr ⟨e, by simp [Tr.els, he], by unfold Tr.first; rw [if_pos (by rw [b1]; exact hpl e he), b1], b2, fun e' he' hf => ?_⟩
      have hex := h1 e he
      simp only [Tr.els, List.mem_cons, List.mem_append] at he'
      rcases he' with rfl | he' | he'
      · exact El.asymm hex
      · exact b3 e' he' hf
      · exact fun hlt => h2 e' he' (El.trans hlt hex)

/-- What 'l23Next' finds: the same. -/
def eOf (xs : List Dm) (ls : List Int) (j : Nat) : El := ⟨j, lX ls j, (dX xs j).we⟩
theorem nxt_is (xs : List Dm) (ls : List Int) (left : Int) : ∀ k : Nat,
    (nxt xs ls left k = -1 ∧ ∀ j, j < k → ¬ fit xs ls left j) ∨ (∃ j, j < k ∧ nxt xs ls left k = (j : Int) ∧ fit xs ls left j ∧ ∀ i, i < k → fit xs ls left i → ¬ (eOf xs ls i).lt (eOf xs ls j))
  | 0 => .inl ⟨rfl, fun j hj => absurd hj (by omega)⟩
  | k + 1 => by
    rcases nxt_is xs ls left k with ⟨a1, a2⟩ | ⟨j, hj, b1, b2, b3⟩
    · by_cases hf : fit xs ls left k
      · refine .inr ⟨k, by omega, nxt_take a1 ⟨hf, .inl (by omega)⟩, hf, fun i hi hfi => ?_⟩
        by_cases e : i = k
        · subst e; exact fun h => El.asymm h h
        · exact absurd hfi (a2 i (by omega))
      · refine .inl ⟨nxt_skip a1 (fun h => hf h.1), fun i hi => ?_⟩
        by_cases e : i = k
        · subst e; exact hf
        · exact a2 i (by omega)
    · by_cases hf : fit xs ls left k ∧ ahd xs ls k j
      · refine .inr ⟨k, by omega, nxt_take b1 ⟨hf.1, .inr (by simpa using hf.2)⟩, hf.1, fun i hi hfi => ?_⟩
        by_cases e : i = k
        · subst e; exact fun h => El.asymm h h
        · have h1 := b3 i (by omega) hfi
          have h2 := hf.2
          unfold ahd at h2
          unfold El.lt eOf at *
          simp only at *
          omega
      · refine .inr ⟨j, by omega, nxt_skip b1 (fun h => hf ⟨h.1, by
          rcases h.2 with h2 | h2
          · omega
          · simpa using h2⟩), b2, fun i hi hfi => ?_⟩
        by_cases e : i = k
        · subst e
          have h2 : ¬ ahd xs ls i j := fun h => hf ⟨hfi, h⟩
          unfold ahd at h2
          unfold El.lt eOf
          simp only
          omega
        · exact b3 i (by omega) hfi
theorem first_nxt {xs : List Dm} {ls : List Int} {left : Int} {n : Nat} {t : Tr} {f : Int → Bool} (ht : t.ok) (he : ∀ e, e ∈ t.els ↔ ∃ j, j < n ∧ e = eOf xs ls j) (hf : ∀ j : Nat, j < n → f j = decide (fit xs ls left j)) :
    t.first f = nxt xs ls left n := by
  rcases Tr.first_is f t ht (fun e h => by obtain ⟨j, -, rfl⟩ := (he e).1 h; unfold eOf; simp) with ⟨a1, a2⟩ | ⟨e, hm, a1, a2, a3⟩
  · rw [a1]
    rcases nxt_is xs ls left n with ⟨b1, -⟩ | ⟨j, hj, b1, b2, -⟩
    · exact b1.symm
    · have h1 := a2 (eOf xs ls j) ((he _).2 ⟨j, hj, rfl⟩)
      rw [show (eOf xs ls j).pl = (j : Int) from rfl, hf j hj, decide_eq_true b2] at h1
      cases h1
  · obtain ⟨i, hi, rfl⟩ := (he e).1 hm
    rw [a1]
    rw [show (eOf xs ls i).pl = (i : Int) from rfl, hf i hi, decide_eq_true_iff] at a2
    rcases nxt_is xs ls left n with ⟨-, b2⟩ | ⟨j, hj, b1, b2, b3⟩
    · exact absurd a2 (b2 i hi)
    · rw [b1]
      exact El.total (b3 i hi a2) (a3 _ ((he _).2 ⟨j, hj, rfl⟩) (by rw [show (eOf xs ls j).pl = (j : Int) from rfl, hf j hj, decide_eq_true b2]))

/-- The tree lies in memory. -/
def TM (T : TypeId) (w : World) : Tr → Prop
  | .nil => True
  | .node g x l r => Bk w g T #[.int .i64 x.pl, .int .i64 x.la, .int .i64 x.we, l.p, r.p] ∧ TM T w l ∧ TM T w r
theorem TM.lt {T : TypeId} {w : World} : ∀ {t : Tr}, TM T w t → ∀ k ∈ t.bs, k < w.heap.size
  | .nil, _, k, hk => by simp [Tr.bs] at hk
  | .node g x l r, ⟨h1, h2, h3⟩, k, hk => by
    simp only [Tr.bs, List.mem_cons, List.mem_append] at hk
    rcases hk with rfl | hk | hk
    · exact h1.lt
    · exact TM.lt h2 k hk
    · exact TM.lt h3 k hk
theorem TM.but {T : TypeId} {X : Nat → Prop} {w w' : World} (hb : But X w w') : ∀ {t : Tr}, TM T w t → (∀ k ∈ t.bs, ¬ X k) → TM T w' t
  | .nil, _, _ => trivial
  | .node g x l r, ⟨h1, h2, h3⟩, hX => by
    simp only [Tr.bs, List.mem_cons, List.mem_append] at hX
    exact ⟨h1.but hb (hX g (.inl rfl)), TM.but hb h2 fun k hk => hX k (.inr (.inl hk)), TM.but hb h3 fun k hk => hX k (.inr (.inr hk))⟩
theorem TM.new {T : TypeId} {w w' : World} {t : Tr} (h : TM T w t) (hb : Below w.heap.size w w') : TM T w' t :=
  TM.but (X := fun k => w.heap.size ≤ k) (But.of_below hb fun k _ hk => hk) h fun k hk => by have := TM.lt h k hk; omega
end Go.Proofs.Ythkoafcbcnobhaa
