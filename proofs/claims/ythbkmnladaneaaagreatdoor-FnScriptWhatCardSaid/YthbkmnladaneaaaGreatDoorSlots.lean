/-
  What slots hold while a region draws its order: integers, rows, blocks whose cells keep their kinds.
  No condition.
-/
import Derived.Test.YthbkmnladaneaaaGreatDoorLib
import Derived.Test.YthbkmnladaneaaaGreatDoorInv
namespace Go.Proofs.YthbkmnladaneaaaGreatDoor
open Go.RowKit
set_option linter.unusedVariables false
set_option linter.unusedSimpArgs false

/-- An integer from lo to hi. -/
def VInt (lo hi : Int) (v : Value) : Prop := ∃ r : Int, v = .int .i64 r ∧ lo ≤ r ∧ r ≤ hi
def VAny (v : Value) : Prop := ∃ r : Int, v = .int .i64 r
def VBool (v : Value) : Prop := ∃ r : Bool, v = .bool r
def VPtr (b o : Nat) (v : Value) : Prop := v = .pointer (some ⟨b, o, none⟩)
/-- A new row of integers, not block g. -/
def VRow (T : TypeId) (g : Nat) (zs : List Int) (v : Value) (w : World) : Prop := ∃ b, v = .slice (some ⟨b, 0, none⟩) zs.length zs.length ∧ b ≠ g ∧ Bk w b T (zs.map (Value.int .i64)).toArray
/-- The address of one of its cells. -/
def VCell (T : TypeId) (g : Nat) (zs : List Int) (v : Value) (w : World) : Prop := ∃ b k, v = .pointer (some ⟨b, k, none⟩) ∧ b ≠ g ∧ k < zs.length ∧ Bk w b T (zs.map (Value.int .i64)).toArray
theorem VRow.only {T : TypeId} {g : Nat} {zs : List Int} {v : Value} {w w' : World} (h : VRow T g zs v w) (ho : Only g w w') : VRow T g zs v w' := by
  obtain ⟨b, h1, h2, h3⟩ := h
  exact ⟨b, h1, h2, h3.only ho h2⟩
theorem VCell.only {T : TypeId} {g : Nat} {zs : List Int} {v : Value} {w w' : World} (h : VCell T g zs v w) (ho : Only g w w') : VCell T g zs v w' := by
  obtain ⟨b, k, h1, h2, h3, h4⟩ := h
  exact ⟨b, k, h1, h2, h3, h4.only ho h2⟩

/-- A cell's kind: true an integer, false a bool. -/
def kindOk : Bool → Value → Prop
  | true, v => VAny v
  | false, v => VBool v
def kindsOk : List Bool → List Value → Prop
  | [], [] => True
  | k :: ks, v :: vs => kindOk k v ∧ kindsOk ks vs
  | _, _ => False
theorem kindsOk_len : ∀ {ks : List Bool} {vs : List Value}, kindsOk ks vs → vs.length = ks.length
  | [], [], _ => rfl
  | k :: ks, v :: vs, h => by simp [kindsOk_len h.2]
theorem kindsOk_set : ∀ {ks : List Bool} {vs : List Value} (i : Nat) (k : Bool) (u : Value), kindsOk ks vs → ks[i]? = some k → kindOk k u → kindsOk ks (vs.set i u)
  | [], [], i, k, u, _, hk, _ => by simp at hk
  | k' :: ks, v :: vs, 0, k, u, h, hk, hu => by simp at hk; subst hk; exact ⟨hu, h.2⟩
  | k' :: ks, v :: vs, i + 1, k, u, h, hk, hu => ⟨h.1, kindsOk_set i k u h.2 (by simpa using hk) hu⟩

/-- Block b is made of cells of these kinds. -/
def KB (w : World) (b : Nat) (T : TypeId) (ks : List Bool) : Prop := ∃ cs : List Value, Bk w b T cs.toArray ∧ kindsOk ks cs
theorem KB.lt {w : World} {b : Nat} {T : TypeId} {ks : List Bool} (h : KB w b T ks) : b < w.heap.size := by
  obtain ⟨cs, h1, _⟩ := h
  exact h1.lt
theorem KB.set_ {w : World} {b : Nat} {T : TypeId} {ks : List Bool} (h : KB w b T ks) {i : Nat} {k : Bool} {u : Value} (hk : ks[i]? = some k) (hu : kindOk k u) : KB (w.setCell ⟨b, i, none⟩ u) b T ks := by
  obtain ⟨cs, h1, h2⟩ := h
  refine ⟨cs.set i u, ?_, kindsOk_set i k u h2 hk hu⟩
  have := h1.set_ i u
  simpa using this

/-- Below block N only block g has turned; from N on blocks keep their cells' kinds. -/
structure Steady (N g : Nat) (w w' : World) : Prop where
  os : w'.os = w.os
  tape : w'.tape = w.tape
  output : w'.output = w.output
  size : w.heap.size ≤ w'.heap.size
  old : ∀ k, k < N → k ≠ g → w'.heap[k]? = w.heap[k]?
  new : ∀ b T ks, N ≤ b → KB w b T ks → KB w' b T ks

theorem Steady.refl (N g : Nat) (w : World) : Steady N g w w := ⟨rfl, rfl, rfl, Nat.le_refl _, fun _ _ _ => rfl, fun _ _ _ _ h => h⟩
theorem Steady.trans {N g : Nat} {a b c : World} (h : Steady N g a b) (k : Steady N g b c) : Steady N g a c :=
  ⟨k.os.trans h.os, k.tape.trans h.tape, k.output.trans h.output, Nat.le_trans h.size k.size, fun i hi hn => (k.old i hi hn).trans (h.old i hi hn), fun b T ks hb hk => k.new b T ks hb (h.new b T ks hb hk)⟩
theorem Steady.of_only {N g : Nat} {w w' : World} (h : Only g w w') (hg : g < N) (hN : N ≤ w.heap.size) : Steady N g w w' :=
  ⟨h.os, h.tape, h.output, h.size, fun k hk hn => h.block k (by omega) hn, fun b T ks hb ⟨cs, h1, h2⟩ => ⟨cs, h1.only h (by omega), h2⟩⟩
theorem Steady.of_below {N g : Nat} {w w' : World} (h : Below w.heap.size w w') (hN : N ≤ w.heap.size) : Steady N g w w' :=
  ⟨h.os, h.tape, h.output, h.size, fun k hk hn => h.block k (by omega), fun b T ks hb ⟨cs, h1, h2⟩ => ⟨cs, h1.below h h1.lt, h2⟩⟩
theorem Steady.alloc {N g : Nat} {a w : World} (h : Steady N g a w) (o : Obj) (hN : N ≤ w.heap.size) : Steady N g a (w.alloc o) :=
  h.trans (Steady.of_below ((Below.refl _ _).alloc (Nat.le_refl _) _) hN)
theorem Steady.drew {N g : Nat} {a w : World} (h : Steady N g a w) : Steady N g a w.drew := ⟨h.os, h.tape, h.output, h.size, h.old, h.new⟩
theorem Steady.set_ {N g : Nat} {a w : World} {b i : Nat} {T : TypeId} {ks : List Bool} {k : Bool} {u : Value} (h : Steady N g a w) (hb : N ≤ b) (hk : KB w b T ks) (hi : ks[i]? = some k) (hu : kindOk k u) : Steady N g a (w.setCell ⟨b, i, none⟩ u) := by
  refine h.trans ⟨rfl, rfl, rfl, by simp [World.setCell], fun j hj hn => Below.heap_setCell w _ u j (by show j ≠ b; omega), fun b' T' ks' hb' hk' => ?_⟩
  by_cases e : b' = b
  · subst e
    obtain ⟨cs, h1, h2⟩ := hk
    obtain ⟨cs', h1', h2'⟩ := hk'
    have he : T' = T ∧ cs' = cs := by
      unfold Bk at h1 h1'
      rw [h1] at h1'
      injection h1' with h1'
      injection h1' with h3 h4
      exact ⟨h4.symm, by simpa using h3.symm⟩
    obtain ⟨rfl, rfl⟩ := he
    refine ⟨cs'.set i u, by simpa using h1'.set_ i u, ?_⟩
    rcases Nat.lt_or_ge i ks'.length with hlt | hge
    · have hlen := kindsOk_len h2
      have hlen' := kindsOk_len h2'
      obtain ⟨v, hv⟩ : ∃ v, ks'[i]? = some v := ⟨_, List.getElem?_eq_getElem hlt⟩
      refine kindsOk_set i v u h2' hv ?_
      have : v = k := by
        have key : ∀ {ks ks' : List Bool} {cs : List Value} {i : Nat} {k v : Bool}, kindsOk ks cs → kindsOk ks' cs → ks[i]? = some k → ks'[i]? = some v → v = k := by
          intro ks
          induction ks with
          | nil => intro ks' cs i k v _ _ h _; simp at h
          | cons x xs ih =>
            intro ks' cs i k v h1 h2 h3 h4
            cases cs with
            | nil => exact h1.elim
            | cons c cs =>
              cases ks' with
              | nil => exact h2.elim
              | cons y ys =>
                cases i with
                | zero =>
                  simp at h3 h4
                  subst h3 h4
                  have a1 := h1.1
                  have a2 := h2.1
                  cases x <;> cases y <;> first | rfl | (obtain ⟨r, rfl⟩ := a1; obtain ⟨s, hs⟩ := a2; cases hs)
                | succ i => exact ih h1.2 h2.2 (by simpa using h3) (by simpa using h4)
        exact key h2 h2' hi hv
      rw [this]
      exact hu
    · rw [List.set_eq_of_length_le (by have := kindsOk_len h2'; omega)]
      exact h2'
  · obtain ⟨cs', h1', h2'⟩ := hk'
    exact ⟨cs', h1'.far (by show b' ≠ b; exact e) u, h2'⟩
theorem Steady.only {N g : Nat} {w w' : World} (h : Steady N g w w') (hN : w.heap.size ≤ N) : Only g w w' :=
  ⟨h.os, h.tape, h.output, h.size, fun k hk hn => h.old k (by omega) hn⟩
theorem Bk.steady {N g b : Nat} {w w' : World} {T : TypeId} {cs : Array Value} (h : Bk w b T cs) (hs : Steady N g w w') (hb : b < N) (hg : b ≠ g) : Bk w' b T cs := (hs.old b hb hg).trans h
/-- The address of a block of the region's own. -/
def VOwn (N : Nat) (T : TypeId) (ks : List Bool) (v : Value) (w : World) : Prop := ∃ b, v = .pointer (some ⟨b, 0, none⟩) ∧ N ≤ b ∧ KB w b T ks
theorem VOwn.steady {N g : Nat} {T : TypeId} {ks : List Bool} {v : Value} {w w' : World} (h : VOwn N T ks v w) (hs : Steady N g w w') : VOwn N T ks v w' := by
  obtain ⟨b, h1, h2, h3⟩ := h
  exact ⟨b, h1, h2, hs.new b T ks h2 h3⟩
theorem KB.five {w : World} {b : Nat} {T : TypeId} (h : KB w b T [true, true, true, true, true]) : ∃ r0 r1 r2 r3 r4 : Int, Bk w b T #[.int .i64 r0, .int .i64 r1, .int .i64 r2, .int .i64 r3, .int .i64 r4] := by
  obtain ⟨cs, h1, h2⟩ := h
  match cs, h2 with
  | [v0, v1, v2, v3, v4], ⟨⟨r0, h3⟩, ⟨r1, h4⟩, ⟨r2, h5⟩, ⟨r3, h6⟩, ⟨r4, h7⟩, _⟩ =>
    subst h3 h4 h5 h6 h7
    exact ⟨r0, r1, r2, r3, r4, h1⟩
end Go.Proofs.YthbkmnladaneaaaGreatDoor
