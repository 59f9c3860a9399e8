/-
  Rings: the drawn statements of the exact law of the put.
  Conditions: as each theorem states them.
-/
import Derived.Test.YtjhppghkhfacaaaRows
import Derived.Test.YtjhppghkhfacaaaLib
import Derived.Test.YtjhppghkhfacaaaOwn
import Derived.Test.YtjhppghkhfacaaaBut
import Derived.Test.YtjhppghkhfacaaaInv
import Derived.Test.YtjhppghkhfacaaaInvD
import Derived.Test.YtjhppghkhfacaaaRgX
import Derived.Test.YtjhppghkhfacaaaRgY
namespace Go.Proofs.Ytjhppghkhfacaaa
open Go.RowKit
set_option linter.unusedVariables false
set_option linter.unusedSimpArgs false

theorem MQ.store {w w' : World} {N b g : Nat} {A : Option Addr} {ys : List Pk} {cs : List Value} {c0 c1 c2 : Value} (h : MQ w N A g ys cs) (hk : Bk w b 25 #[c0, c1, c2]) (ho : Only b w w') : MQ w' N A g ys cs ∧ (0 < ys.length → g ≠ b) := by
  have hne : 0 < ys.length → g ≠ b := fun hp e => by
    obtain ⟨⟨o, h1⟩, _, _⟩ := h.row hp
    obtain ⟨b', off, e', _, hc⟩ := h.seq.2 hp
    rw [h1] at e'
    injection e' with e'
    injection e' with e1 e2
    subst e1 e2 e
    obtain ⟨y, hy⟩ : ∃ y, ys[0]? = some y := ⟨_, List.getElem?_eq_getElem hp⟩
    have h3 := flat_atP ys 0 3 (by omega)
    rw [hy] at h3
    have h4 := hc _ _ h3
    rw [hk.cell] at h4
    have h5 := (Array.getElem?_eq_some_iff.1 h4).1
    simp at h5
    omega
  exact ⟨h.but_ (But.of_only (X := fun k => k = b) ho rfl) hne, hne⟩
theorem MR.store {w w' : World} {N b g : Nat} {A : Option Addr} {ys : List Pk} {cs : List Value} {c0 c1 c2 : Value} (h : MR w N A g ys cs) (hk : Bk w b 25 #[c0, c1, c2]) (ho : Only b w w') : MR w' N A g ys cs ∧ (0 < ys.length → g ≠ b) := by
  have hne : 0 < ys.length → g ≠ b := fun hp e => by
    obtain ⟨_, _, _, h4, _⟩ := h.row hp
    rw [e] at h4
    unfold Bk at hk h4
    rw [hk] at h4
    injection h4 with h4
    injection h4 with _ h5
    exact absurd h5 (by decide)
  exact ⟨h.but_ (But.of_only (X := fun k => k = b) ho rfl) hne, hne⟩
def JA (N : Nat) (ea cr : Int) (A : Option Addr) (n c : Nat) (xs : List Pk) (y : Pk) (e1 e2 : Int) (ys : List Pk) (bb : Bool) : Nat → (Nat → Value) → World → Prop
  | 0, x, _ => x 0 = .agg #[.int .i64 ea, .int .i64 cr, .slice A n c]
  | 1, x, w => ∃ g, x 1 = .agg #[.int .i64 ea, .int .i64 cr, .slice (some ⟨g, 0, none⟩) xs.length xs.length] ∧ MR w N (some ⟨g, 0, none⟩) g xs (xs.flatMap Pk.c)
  | 2, x, _ => x 2 = .agg #[.int .i64 y.wi, .int .i64 y.ti, .int .i64 y.la, .int .i64 y.si, .bool y.ky, .bool y.en]
  | 3, x, _ => x 3 = .agg #[.int .i64 y.wi, .int .i64 y.ti, .int .i64 y.la, .int .i64 y.si, .bool y.ky, .bool y.en]
  | 4, x, w => ∃ A' c' g cs, x 4 = .tuple #[.agg #[.int .i64 e1, .int .i64 e2, .slice A' ys.length c'], .bool bb] ∧ MQ w N A' g ys cs
  | 5, x, w => ∃ A' c' g cs, x 5 = .tuple #[.agg #[.int .i64 e1, .int .i64 e2, .slice A' ys.length c'], .bool bb] ∧ MQ w N A' g ys cs
  | 6, x, w => ∃ A' c' g cs, x 6 = .agg #[.int .i64 e1, .int .i64 e2, .slice A' ys.length c'] ∧ MQ w N A' g ys cs
  | 7, x, _ => x 7 = .bool bb
  | 8, x, w => ∃ b, x 8 = .pointer (some ⟨b, 0, none⟩) ∧ N ≤ b ∧ Bk w b 25 #[.int .i64 0, .int .i64 0, .slice none 0 0]
  | 9, x, w => ∃ b A' c' g cs, x 8 = .pointer (some ⟨b, 0, none⟩) ∧ N ≤ b ∧ Bk w b 25 #[.int .i64 e1, .int .i64 e2, .slice A' ys.length c'] ∧ MQ w N A' g ys cs ∧ (0 < ys.length → g ≠ b)
  | 10, x, _ => x 10 = .bool bb
  | _, _, _ => True
def JAS : Nat → List Nat
  | 8 => [9]
  | _ => []
def JAT : Nat → List Nat := fun _ => []
def JAR : Nat → World → World → Prop
  | 9, w, w' => ∃ b c0 c1 c2, Bk w b 25 #[c0, c1, c2] ∧ Only b w w'
  | _, w, w' => Below w.heap.size w w'
theorem JA.loc {N : Nat} {ea cr : Int} {A : Option Addr} {n c : Nat} {xs : List Pk} {y : Pk} {e1 e2 : Int} {ys : List Pk} {bb : Bool} (i j : Nat) (x : Nat → Value) (v : Value) (w : World) (hij : i ≠ j) (h98 : j = 9 → i ≠ 8) (h : JA N ea cr A n c xs y e1 e2 ys bb j x w) : JA N ea cr A n c xs y e1 e2 ys bb j (upd x i v) w := by
  have e : upd x i v j = x j := by simp [upd, Ne.symm hij]
  unfold JA at *
  split at h
  all_goals first | (rw [e]; exact h) | trivial | (have e8 : upd x i v 8 = x 8 := (by simp [upd, Ne.symm (h98 rfl)]); rw [e8]; exact h)
theorem JA.mono {N : Nat} {ea cr : Int} {A : Option Addr} {n c : Nat} {xs : List Pk} {y : Pk} {e1 e2 : Int} {ys : List Pk} {bb : Bool} (i j : Nat) (x : Nat → Value) (w w' : World) (hij : i ≠ j) (hs : i ∉ JAS j) (ht : i ∉ JAT j) (hR : JAR i w w') (h : JA N ea cr A n c xs y e1 e2 ys bb j x w) : JA N ea cr A n c xs y e1 e2 ys bb j x w' := by
  by_cases hi : i = 9
  · subst hi
    have hR' : ∃ b c0 c1 c2, Bk w b 25 #[c0, c1, c2] ∧ Only b w w' := hR
    obtain ⟨bb', k0, k1, k2, hk, ho⟩ := hR'
    clear hR
    unfold JA at *
    split at h
    all_goals try first | exact h | exact absurd rfl hij | (exfalso; simp [JAS] at hs; done)
    · obtain ⟨g, h1, h2⟩ := h
      exact ⟨g, h1, (h2.store hk ho).1⟩
    · obtain ⟨A', c', g, cs, h1, h2⟩ := h
      exact ⟨A', c', g, cs, h1, (h2.store hk ho).1⟩
    · obtain ⟨A', c', g, cs, h1, h2⟩ := h
      exact ⟨A', c', g, cs, h1, (h2.store hk ho).1⟩
    · obtain ⟨A', c', g, cs, h1, h2⟩ := h
      exact ⟨A', c', g, cs, h1, (h2.store hk ho).1⟩
  · have hb : Below w.heap.size w w' := by
      unfold JAR at hR
      split at hR
      · exact absurd rfl hi
      · exact hR
    unfold JA at *
    split at h
    all_goals try exact h
    · obtain ⟨g, h1, h2⟩ := h
      exact ⟨g, h1, h2.below_ hb⟩
    · obtain ⟨A', c', g, cs, h1, h2⟩ := h
      exact ⟨A', c', g, cs, h1, h2.below_ hb⟩
    · obtain ⟨A', c', g, cs, h1, h2⟩ := h
      exact ⟨A', c', g, cs, h1, h2.below_ hb⟩
    · obtain ⟨A', c', g, cs, h1, h2⟩ := h
      exact ⟨A', c', g, cs, h1, h2.below_ hb⟩
    · obtain ⟨b, h1, h2, h3⟩ := h
      exact ⟨b, h1, h2, h3.below hb h3.lt⟩
    · obtain ⟨b, A', c', g, cs, h1, h2, h3, h4, h5⟩ := h
      exact ⟨b, A', c', g, cs, h1, h2, h3.below hb h3.lt, h4.below_ hb, h5⟩
def JB (N : Nat) (ea cr : Int) (A : Option Addr) (n c : Nat) (xs : List Pk) (y : Pk) (e1 e2 : Int) (ys : List Pk) (bb : Bool) : Nat → (Nat → Value) → World → Prop
  | 0, x, _ => x 0 = .agg #[.int .i64 ea, .int .i64 cr, .slice A n c]
  | 1, x, _ => x 1 = .agg #[.int .i64 y.wi, .int .i64 y.ti, .int .i64 y.la, .int .i64 y.si, .bool y.ky, .bool y.en]
  | 2, x, _ => x 2 = .agg #[.int .i64 y.wi, .int .i64 y.ti, .int .i64 y.la, .int .i64 y.si, .bool y.ky, .bool y.en]
  | 3, x, w => ∃ A' c' g cs, x 3 = .tuple #[.agg #[.int .i64 e1, .int .i64 e2, .slice A' ys.length c'], .bool bb] ∧ MR w N A' g ys cs
  | 4, x, w => ∃ A' c' g cs, x 4 = .tuple #[.agg #[.int .i64 e1, .int .i64 e2, .slice A' ys.length c'], .bool bb] ∧ MR w N A' g ys cs
  | 5, x, w => ∃ A' c' g cs, x 5 = .agg #[.int .i64 e1, .int .i64 e2, .slice A' ys.length c'] ∧ MR w N A' g ys cs
  | 6, x, _ => x 6 = .bool bb
  | 7, x, w => ∃ b, x 7 = .pointer (some ⟨b, 0, none⟩) ∧ N ≤ b ∧ Bk w b 25 #[.int .i64 0, .int .i64 0, .slice none 0 0]
  | 8, x, w => ∃ b A' c' g cs, x 7 = .pointer (some ⟨b, 0, none⟩) ∧ N ≤ b ∧ Bk w b 25 #[.int .i64 e1, .int .i64 e2, .slice A' ys.length c'] ∧ MR w N A' g ys cs ∧ (0 < ys.length → g ≠ b)
  | 9, x, _ => x 9 = .bool bb
  | _, _, _ => True
def JBS : Nat → List Nat
  | 7 => [8]
  | _ => []
def JBT : Nat → List Nat := fun _ => []
def JBR : Nat → World → World → Prop
  | 8, w, w' => ∃ b c0 c1 c2, Bk w b 25 #[c0, c1, c2] ∧ Only b w w'
  | _, w, w' => Below w.heap.size w w'
theorem JB.loc {N : Nat} {ea cr : Int} {A : Option Addr} {n c : Nat} {xs : List Pk} {y : Pk} {e1 e2 : Int} {ys : List Pk} {bb : Bool} (i j : Nat) (x : Nat → Value) (v : Value) (w : World) (hij : i ≠ j) (h98 : j = 8 → i ≠ 7) (h : JB N ea cr A n c xs y e1 e2 ys bb j x w) : JB N ea cr A n c xs y e1 e2 ys bb j (upd x i v) w := by
  have e : upd x i v j = x j := by simp [upd, Ne.symm hij]
  unfold JB at *
  split at h
  all_goals first | (rw [e]; exact h) | trivial | (have e8 : upd x i v 7 = x 7 := (by simp [upd, Ne.symm (h98 rfl)]); rw [e8]; exact h)
theorem JB.mono {N : Nat} {ea cr : Int} {A : Option Addr} {n c : Nat} {xs : List Pk} {y : Pk} {e1 e2 : Int} {ys : List Pk} {bb : Bool} (i j : Nat) (x : Nat → Value) (w w' : World) (hij : i ≠ j) (hs : i ∉ JBS j) (ht : i ∉ JBT j) (hR : JBR i w w') (h : JB N ea cr A n c xs y e1 e2 ys bb j x w) : JB N ea cr A n c xs y e1 e2 ys bb j x w' := by
  by_cases hi : i = 8
  · subst hi
    have hR' : ∃ b c0 c1 c2, Bk w b 25 #[c0, c1, c2] ∧ Only b w w' := hR
    obtain ⟨bb', k0, k1, k2, hk, ho⟩ := hR'
    clear hR
    unfold JB at *
    split at h
    all_goals try first | exact h | exact absurd rfl hij | (exfalso; simp [JBS] at hs; done)
    · obtain ⟨A', c', g, cs, h1, h2⟩ := h
      exact ⟨A', c', g, cs, h1, (h2.store hk ho).1⟩
    · obtain ⟨A', c', g, cs, h1, h2⟩ := h
      exact ⟨A', c', g, cs, h1, (h2.store hk ho).1⟩
    · obtain ⟨A', c', g, cs, h1, h2⟩ := h
      exact ⟨A', c', g, cs, h1, (h2.store hk ho).1⟩
  · have hb : Below w.heap.size w w' := by
      unfold JBR at hR
      split at hR
      · exact absurd rfl hi
      · exact hR
    unfold JB at *
    split at h
    all_goals try exact h
    · obtain ⟨A', c', g, cs, h1, h2⟩ := h
      exact ⟨A', c', g, cs, h1, h2.below_ hb⟩
    · obtain ⟨A', c', g, cs, h1, h2⟩ := h
      exact ⟨A', c', g, cs, h1, h2.below_ hb⟩
    · obtain ⟨A', c', g, cs, h1, h2⟩ := h
      exact ⟨A', c', g, cs, h1, h2.below_ hb⟩
    · obtain ⟨b, h1, h2, h3⟩ := h
      exact ⟨b, h1, h2, h3.below hb h3.lt⟩
    · obtain ⟨b, A', c', g, cs, h1, h2, h3, h4, h5⟩ := h
      exact ⟨b, A', c', g, cs, h1, h2, h3.below hb h3.lt, h4.below_ hb, h5⟩
end Go.Proofs.Ytjhppghkhfacaaa
