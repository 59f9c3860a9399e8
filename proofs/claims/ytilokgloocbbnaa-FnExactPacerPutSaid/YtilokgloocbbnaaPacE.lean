/-
  Queues by class: put.
  Conditions: as each theorem states them.
-/
import Derived.Test.YtilokgloocbbnaaRows
import Derived.Test.YtilokgloocbbnaaLib
import Derived.Test.YtilokgloocbbnaaOwn
import Derived.Test.YtilokgloocbbnaaBut
import Derived.Test.YtilokgloocbbnaaDraw
import Derived.Test.YtilokgloocbbnaaInv
import Derived.Test.YtilokgloocbbnaaSlots
import Derived.Test.YtilokgloocbbnaaApp
import Derived.Test.YtilokgloocbbnaaPac
import Derived.Test.YtilokgloocbbnaaPacB
import Derived.Outline
namespace Go.Proofs.Ytilokgloocbbnaa
open Go.RowKit
set_option linter.unusedVariables false
set_option linter.unusedSimpArgs false

/-- Three queues behind a pointer, each in memory of its own from block bq + 1 on. -/
def Qs (TQ TW : TypeId) (w : World) (bq : Nat) (v : Nat → Value) (q : Nat → List Wt) : Prop :=
  Bk w bq TQ #[v 0, v 1, v 2] ∧ (∀ i, i < 3 → w.ownsRow (bq + 1) TW 3 (v i) (q i).length ((q i).flatMap Wt.c)) ∧ ∀ i j b, i < 3 → j < 3 → i ≠ j → (v i).ownBlock = some b → (v j).ownBlock ≠ some b
def updQ (q : Nat → List Wt) (i : Nat) (x : Wt) : Nat → List Wt := fun j => if j = i then q i ++ [x] else q j
theorem Qs.set_ {w : World} {TQ : TypeId} {bq i : Nat} {v : Nat → Value} (hi : i < 3) {r : Value} (h : Bk w bq TQ (#[v 0, v 1, v 2].setIfInBounds i r)) : Bk w bq TQ #[upd v i r 0, upd v i r 1, upd v i r 2] := by
  rcases i with _ | _ | _ | i
  · simpa [upd] using h
  · simpa [upd] using h
  · simpa [upd] using h
  · omega
/-- What the slots hold. -/
def IE (TQ TW N bw bq i : Nat) (v : Nat → Value) (q : Nat → List Wt) (x : Wt) : Nat → Value → World → Prop
  | 0, u, _ => u = .pointer (some ⟨bq, 0, none⟩)
  | 1, u, _ => u = .pointer (some ⟨bw, 1, none⟩)
  | 2, u, _ => u = .int .i64 i
  | 3, u, _ => u = .pointer (some ⟨bq, 0, none⟩)
  | 4, u, _ => u = .pointer (some ⟨bw, 1, none⟩)
  | 5, u, _ => u = .int .i64 i
  | 6, u, _ => u = .pointer (some ⟨bq, 0, none⟩)
  | 7, u, _ => u = .pointer (some ⟨bq, i, none⟩)
  | 8, u, w => u = v i ∧ w.ownsRow (bq + 1) TW 3 (v i) (q i).length ((q i).flatMap Wt.c)
  | 9, u, _ => u = .agg #[.int .i64 x.id, .int .i64 i, .int .i64 x.sz]
  | 10, u, w => ∃ g, N ≤ g ∧ u = .slice (some ⟨g, 0, none⟩) 1 1 ∧ Bk w g TW #[.int .i64 x.id, .int .i64 i, .int .i64 x.sz]
  | 11, u, w => (w.ownsRow (bq + 1) TW 3 u ((q i).length + 1) ((q i).flatMap Wt.c ++ x.c) ∧ (u.ownBlock = (v i).ownBlock ∨ ∃ g, u.ownBlock = some g ∧ N ≤ g)) ∧ Bk w bq TQ #[v 0, v 1, v 2]
  | 12, u, _ => u = .pointer (some ⟨bq, 0, none⟩)
  | 13, u, _ => u = .pointer (some ⟨bq, i, none⟩)
  | 14, _, w => ∃ r, Bk w bq TQ (#[v 0, v 1, v 2].setIfInBounds i r) ∧ (w.ownsRow (bq + 1) TW 3 r ((q i).length + 1) ((q i).flatMap Wt.c ++ x.c) ∧ (r.ownBlock = (v i).ownBlock ∨ ∃ g, r.ownBlock = some g ∧ N ≤ g))
  | _, _, _ => True
def SE : Nat → List Nat
  | 8 => [11]
  | 10 => []
  | 11 => [14]
  | _ => []
def TE : Nat → List Nat
  | 11 => [8, 10]
  | 14 => [0, 1, 2, 3, 4, 5, 6, 7, 8, 9, 10, 11, 13]
  | _ => []
def XE (bq : Nat) (r : Value) : Nat → Nat → Prop
  | 11, k => r.ownBlock = some k
  | 14, k => k = bq
  | _, _ => False
theorem XE_no {bq : Nat} {r : Value} {i k : Nat} (h11 : i ≠ 11) (h14 : i ≠ 14) : ¬ XE bq r i k := by
  unfold XE
  split
  · exact absurd rfl h11
  · exact absurd rfl h14
  · exact id
theorem IE.mono {TQ TW N bw bq k : Nat} {qv : Nat → Value} {q : Nat → List Wt} {x : Wt} (hN : ∀ b, (qv k).ownBlock = some b → b < N) (hq : bq < N) (i j : Nat) (v : Value) (w w' : World) (hij : i ≠ j) (hs : i ∉ SE j) (ht : i ∉ TE j) (hR : But (XE bq (qv k) i) w w') (h : IE TQ TW N bw bq k qv q x j v w) : IE TQ TW N bw bq k qv q x j v w' := by
  unfold IE at *
  split at h
  all_goals try exact h
  · refine ⟨h.1, own_but h.2 hR fun b hb => ?_⟩
    by_cases e : i = 14
    · subst e
      intro he
      replace he : b = bq := he
      have := (h.2.lt b hb).1
      omega
    · exact XE_no (by rintro rfl; simp [SE] at hs) e
  · obtain ⟨g, h1, h2, h3⟩ := h
    refine ⟨g, h1, h2, h3.but hR ?_⟩
    by_cases e : i = 14
    · subst e
      intro he
      replace he : g = bq := he
      omega
    · by_cases e' : i = 11
      · subst e'
        intro he
        have := hN g he
        omega
      · exact XE_no e' e
  · have hn : ∀ b, ¬ XE bq (qv k) i b := fun b => XE_no hij (by rintro rfl; simp [SE] at hs)
    exact ⟨⟨own_but h.1.1 hR fun b _ => hn b, h.1.2⟩, h.2.but hR (hn _)⟩
  · obtain ⟨r, h1, h2, h3⟩ := h
    have hn : ∀ b, ¬ XE bq (qv k) i b := fun b => XE_no (by rintro rfl; simp [TE] at ht) hij
    exact ⟨r, h1.but hR (hn _), own_but h2 hR fun b _ => hn b, h3⟩

set_option maxHeartbeats 8000000 in
theorem put_any (i : Nat) (hi : i < 3) (x : Wt) (hx : x.cl = i) (w : World) (bq : Nat) (v : Nat → Value) (q : Nat → List Wt) (hq : Qs 74 27 w bq v q) (hn : (q i).length ≤ 1099511627776) :
    Calls Try.prog 39 #[.pointer (some ⟨bq, 0, none⟩), .agg #[.int .i64 x.id, .int .i64 x.cl, .int .i64 x.sz]] w fun y w' => y = .returned (.tuple #[]) ∧ (∃ v', Qs 74 27 w' bq v' (updQ q i x)) ∧ Below bq w w' := by
  obtain ⟨i0, hi0, hz0, hz1, hz2⟩ := info_parts wt_info
  obtain ⟨hQ, hO, hD⟩ := hq
  have HXC := Lib.hid (show x = ⟨x.id, i, x.sz⟩ by rw [← hx])
  rw [hx]
  clear hx
  have HR := Lib.hid (show ∀ j, j < 3 → ∀ b, (v j).ownBlock = some b → b < w.heap.size from fun j hj b hb => ((hO j hj).lt b hb).2)
  have hql : bq < w.heap.size := hQ.lt
  have hX := Bk.new w 27 #[.int .i64 x.id, .int .i64 i, .int .i64 x.sz]
  replace hQ := hQ.alloc (.cells #[.int .i64 x.id, .int .i64 i, .int .i64 x.sz] 27)
  have HO0 := Lib.hid hO
  have HD := Lib.hid hD
  have HQ := Lib.hid hQ
  have HO := Lib.hid (show ∀ i', i' < 3 → (w.alloc (.cells #[.int .i64 x.id, .int .i64 i, .int .i64 x.sz] 27)).ownsRow (bq + 1) 27 3 (v i') (q i').length ((q i').flatMap Wt.c) from fun j hj => (hO j hj).alloc _)
  have hB0 : Below bq w (w.alloc (.cells #[.int .i64 x.id, .int .i64 i, .int .i64 x.sz] 27)) := (Below.refl _ _).alloc (by omega) _
  have hW0 : (w.alloc (.cells #[.int .i64 x.id, .int .i64 i, .int .i64 x.sz] 27)).heap.size = w.heap.size + 1 := by simp
  clear hO hD hQ
  go_enter Try.func39, Try.ntmps39
  go_wp2_with fail
  generalize w.alloc (.cells #[.int .i64 x.id, .int .i64 i, .int .i64 x.sz] 27) = W at *
  have HW := Lib.hid hW0
  clear hW0
  refine wp_region_use SE TE (fun w' => Bk w' bq 74 #[v 0, v 1, v 2] ∧ w'.ownsRow (bq + 1) 27 3 (v i) (q i).length ((q i).flatMap Wt.c)) [11, 14] (fun _ w' => But (fun k => k = bq ∨ some k = (v i).ownBlock) W w') (fun i' => But (XE bq (v i) i')) (IE 74 27 W.heap.size w.heap.size bq i v q x) (by kernel_rfl) (by kernel_rfl) (by kernel_rfl) (But.refl _ _).drew ⟨HQ.out.drew, (HO.out i hi).drew⟩ (by kernel_rfl) (IE.mono (fun b hb => by rw [HW.out]; have := HR.out i hi b hb; omega) (by rw [HW.out]; omega))
    (fun i' w1 w2 hi' hR h => by
      have hn : ∀ b, ¬ XE bq (v i) i' b := fun b => XE_no (by rintro rfl; simp at hi') (by rintro rfl; simp at hi')
      exact ⟨h.1.but hR (hn _), own_but h.2 hR fun b _ => hn b⟩) ⟨?_, ?_, ?_, ?_, ?_, ?_, ?_, ?_, ?_, ?_, ?_, ?_, ?_, ?_, ?_, trivial⟩ ?_
  · intro m y wv hm hb hd hz
    have HB := Lib.hid hb
    clear hm hd hb hz
    refine ⟨?_⟩
    simp only [fill, Act.put, List.setIfInBounds_toArray, List.set_cons_zero, List.set_cons_succ]
    go_simp
    exact ⟨But.refl _ _, HB.out, rfl⟩
  · intro m y wv hm hb hd hz
    have HB := Lib.hid hb
    clear hm hd hb hz
    refine ⟨?_⟩
    simp only [fill, Act.put, List.setIfInBounds_toArray, List.set_cons_zero, List.set_cons_succ]
    go_simp
    exact ⟨But.refl _ _, HB.out, rfl⟩
  · intro m y wv hm hb hd hz
    have d1 := hd { on := 1, ground := .data } (by simp) (by kernel_rfl) (by kernel_rfl)
    replace d1 : y 1 = .pointer (some ⟨w.heap.size, 1, none⟩) := d1
    replace hX := hX.but hb (by show ¬ (w.heap.size = bq ∨ some w.heap.size = (v i).ownBlock); rintro (h | h); omega; exact absurd (HR.out i hi _ h.symm) (Nat.lt_irrefl _))
    (try clear hX_c0); (try clear hX_f0)
    (try clear hX_c1); (try clear hX_f1)
    (try clear hX_c2); (try clear hX_f2)
    (try clear hX_lt)
    have hX_lt := hX.lt; (try simp only [World.size_alloc] at hX_lt)
    have hX_c0 := hX.cell 0; have hX_f0 := hX.frozen 0
    have hX_c1 := hX.cell 1; have hX_f1 := hX.frozen 1
    have hX_c2 := hX.cell 2; have hX_f2 := hX.frozen 2
    simp only [List.getElem?_toArray, List.getElem?_cons_zero, List.getElem?_cons_succ] at hX_c0 hX_c1 hX_c2
    have HB := Lib.hid hb
    clear hm hd hb hz
    refine ⟨?_⟩
    simp only [fill, Act.put, List.setIfInBounds_toArray, List.set_cons_zero, List.set_cons_succ]
    go_simp
    exact ⟨But.refl _ _, HB.out, rfl⟩
  · intro m y wv hm hb hd hz
    have HB := Lib.hid hb
    clear hm hd hb hz
    refine ⟨?_⟩
    simp only [fill, Act.put, List.setIfInBounds_toArray, List.set_cons_zero, List.set_cons_succ]
    go_simp
    exact ⟨But.refl _ _, HB.out, rfl⟩
  · intro m y wv hm hb hd hz
    have HB := Lib.hid hb
    clear hm hd hb hz
    refine ⟨?_⟩
    simp only [fill, Act.put, List.setIfInBounds_toArray, List.set_cons_zero, List.set_cons_succ]
    go_simp
    exact ⟨But.refl _ _, HB.out, rfl⟩
  · intro m y wv hm hb hd hz
    have d4 := hd { on := 4, ground := .data } (by simp) (by kernel_rfl) (by kernel_rfl)
    replace d4 : y 4 = .pointer (some ⟨w.heap.size, 1, none⟩) := d4
    replace hX := hX.but hb (by show ¬ (w.heap.size = bq ∨ some w.heap.size = (v i).ownBlock); rintro (h | h); omega; exact absurd (HR.out i hi _ h.symm) (Nat.lt_irrefl _))
    (try clear hX_c0); (try clear hX_f0)
    (try clear hX_c1); (try clear hX_f1)
    (try clear hX_c2); (try clear hX_f2)
    (try clear hX_lt)
    have hX_lt := hX.lt; (try simp only [World.size_alloc] at hX_lt)
    have hX_c0 := hX.cell 0; have hX_f0 := hX.frozen 0
    have hX_c1 := hX.cell 1; have hX_f1 := hX.frozen 1
    have hX_c2 := hX.cell 2; have hX_f2 := hX.frozen 2
    simp only [List.getElem?_toArray, List.getElem?_cons_zero, List.getElem?_cons_succ] at hX_c0 hX_c1 hX_c2
    have HB := Lib.hid hb
    clear hm hd hb hz
    refine ⟨?_⟩
    simp only [fill, Act.put, List.setIfInBounds_toArray, List.set_cons_zero, List.set_cons_succ]
    go_simp
    exact ⟨But.refl _ _, HB.out, rfl⟩
  · intro m y wv hm hb hd hz
    have d3 := hd { on := 3, ground := .data } (by simp) (by kernel_rfl) (by kernel_rfl)
    replace d3 : y 3 = .pointer (some ⟨bq, 0, none⟩) := d3
    have HB := Lib.hid hb
    clear hm hd hb hz
    refine ⟨?_⟩
    simp only [fill, Act.put, List.setIfInBounds_toArray, List.set_cons_zero, List.set_cons_succ]
    go_simp
    exact ⟨But.refl _ _, HB.out, rfl⟩
  · intro m y wv hm hb hd hz
    have d6 := hd { on := 6, ground := .data } (by simp) (by kernel_rfl) (by kernel_rfl)
    replace d6 : y 6 = .pointer (some ⟨bq, 0, none⟩) := d6
    have d5 := hd { on := 5, ground := .data } (by simp) (by kernel_rfl) (by kernel_rfl)
    replace d5 : y 5 = .int .i64 i := d5
    have hi0 : (0 : Int) ≤ (i : Int) := Int.natCast_nonneg _
    have hi1 : (i : Int) < 3 := by omega
    have HB := Lib.hid hb
    clear hm hd hb hz
    refine ⟨?_⟩
    simp only [fill, Act.put, List.setIfInBounds_toArray, List.set_cons_zero, List.set_cons_succ]
    go_simp
    exact ⟨But.refl _ _, HB.out, rfl⟩
  · intro m y wv hm hb hd hz
    have d7 := hd { on := 7, ground := .data } (by simp) (by kernel_rfl) (by kernel_rfl)
    replace d7 : y 7 = .pointer (some ⟨bq, i, none⟩) := d7
    obtain ⟨hQz, hOz⟩ := hz (by kernel_rfl)
    have hcell : wv.cell? ⟨bq, i, none⟩ = some (v i) := by
      rw [hQz.cell i]
      rcases i with _ | _ | _ | i <;> first | rfl | omega
    obtain ⟨A8, c8, hv8, -⟩ := own_shape hOz
    rw [hv8] at hcell
    have HO8 := Lib.hid hOz
    have HV8 := Lib.hid hv8
    have HB := Lib.hid hb
    clear hm hd hb hz hQz hOz hv8
    refine ⟨?_⟩
    simp only [fill, Act.put, List.setIfInBounds_toArray, List.set_cons_zero, List.set_cons_succ]
    go_simp
    exact ⟨But.refl _ _, HB.out, HV8.out.symm, HO8.out⟩
  · intro m y wv hm hb hd hz
    replace hX := hX.but hb (by show ¬ (w.heap.size = bq ∨ some w.heap.size = (v i).ownBlock); rintro (h | h); omega; exact absurd (HR.out i hi _ h.symm) (Nat.lt_irrefl _))
    (try clear hX_c0); (try clear hX_f0)
    (try clear hX_c1); (try clear hX_f1)
    (try clear hX_c2); (try clear hX_f2)
    (try clear hX_lt)
    have hX_lt := hX.lt; (try simp only [World.size_alloc] at hX_lt)
    have hX_c0 := hX.cell 0; have hX_f0 := hX.frozen 0
    have hX_c1 := hX.cell 1; have hX_f1 := hX.frozen 1
    have hX_c2 := hX.cell 2; have hX_f2 := hX.frozen 2
    simp only [List.getElem?_toArray, List.getElem?_cons_zero, List.getElem?_cons_succ] at hX_c0 hX_c1 hX_c2
    have HB := Lib.hid hb
    clear hm hd hb hz
    refine ⟨?_⟩
    simp only [fill, Act.put, List.setIfInBounds_toArray, List.set_cons_zero, List.set_cons_succ]
    go_simp
    exact ⟨But.refl _ _, HB.out, rfl⟩
  · intro m y wv hm hb hd hz
    have d9 := hd { on := 9, ground := .data } (by simp) (by kernel_rfl) (by kernel_rfl)
    replace d9 : y 9 = .agg #[.int .i64 x.id, .int .i64 i, .int .i64 x.sz] := d9
    have hbs := hb.size
    have HB := Lib.hid hb
    clear hm hd hb hz
    refine ⟨?_⟩
    simp only [fill, Act.put, List.setIfInBounds_toArray, List.set_cons_zero, List.set_cons_succ]
    go_simp
    exact ⟨(But.refl _ _).alloc _, HB.out.alloc _, _, hbs, rfl, Bk.new _ _ _⟩
  · intro m y wv hm hb hd hz
    have d8 := hd { on := 8, ground := .data } (by simp) (by kernel_rfl) (by kernel_rfl)
    obtain ⟨h8, hown⟩ := d8
    have d10 := hd { on := 10, ground := .data } (by simp) (by kernel_rfl) (by kernel_rfl)
    obtain ⟨g, hg, h10, hbk⟩ := d10
    obtain ⟨hQz, -⟩ := hz (by kernel_rfl)
    have hs8 : Sl wv wv.heap.size 3 (some ⟨g, 0, none⟩) 1 (Wt.c ⟨x.id, i, x.sz⟩) := ⟨rfl, fun _ => ⟨g, 0, rfl, hbk.lt, fun j u hu => by rw [Nat.zero_add, hbk.cell j]; simpa [Wt.c] using hu⟩⟩
    have hbs := hb.size
    have hqs := hQz.lt
    clear hm hd hz
    refine ⟨?_⟩
    simp only [fill, Act.put, List.setIfInBounds_toArray, List.set_cons_zero, List.set_cons_succ]
    refine wp_app wv (.tmp 12) (.tmp 14) 23 rfl (bq + 1) 27 i0 (.agg #[.int .i64 0, .int .i64 0, .int .i64 0]) 3 24 Try.underlying23 hi0 hz0 hz1 hz2 rfl (by omega) (v i) (q i).length _ ?_ hown wv.heap.size (some ⟨g, 0, none⟩) 1 1 _ ?_ hs8 (one_wt _) (by unfold maxLen; omega) (by omega) (by omega) ?_
    · exact h8
    · exact h10
    intro v' w' hown' hgr hat
    have hR : But (XE bq (v i) 11) wv w' := But.of_grown hgr fun k hk => hk
    refine ⟨v', rfl, hR, hb.trans (hR.mono fun k _ hk => .inr hk.symm), ⟨?_, ?_⟩, hQz.but hR fun h => ?_⟩
    · have e : Wt.c ⟨x.id, i, x.sz⟩ = x.c := by rw [← HXC.out]
      rw [e] at hown'
      exact hown'
    · rcases hat with h | h
      · exact .inl h
      · exact .inr ⟨_, h, hbs⟩
    · have := HR.out i hi bq h
      have := (hown.lt bq h).1
      omega
  · intro m y wv hm hb hd hz
    have d0 := hd { on := 0, ground := .data } (by simp) (by kernel_rfl) (by kernel_rfl)
    replace d0 : y 0 = .pointer (some ⟨bq, 0, none⟩) := d0
    have HB := Lib.hid hb
    clear hm hd hb hz
    refine ⟨?_⟩
    simp only [fill, Act.put, List.setIfInBounds_toArray, List.set_cons_zero, List.set_cons_succ]
    go_simp
    exact ⟨But.refl _ _, HB.out, rfl⟩
  · intro m y wv hm hb hd hz
    have d12 := hd { on := 12, ground := .data } (by simp) (by kernel_rfl) (by kernel_rfl)
    replace d12 : y 12 = .pointer (some ⟨bq, 0, none⟩) := d12
    have d2 := hd { on := 2, ground := .data } (by simp) (by kernel_rfl) (by kernel_rfl)
    replace d2 : y 2 = .int .i64 i := d2
    have hi0 : (0 : Int) ≤ (i : Int) := Int.natCast_nonneg _
    have hi1 : (i : Int) < 3 := by omega
    have HB := Lib.hid hb
    clear hm hd hb hz
    refine ⟨?_⟩
    simp only [fill, Act.put, List.setIfInBounds_toArray, List.set_cons_zero, List.set_cons_succ]
    go_simp
    exact ⟨But.refl _ _, HB.out, rfl⟩
  · intro m y wv hm hb hd hz
    have d13 := hd { on := 13, ground := .data } (by simp) (by kernel_rfl) (by kernel_rfl)
    replace d13 : y 13 = .pointer (some ⟨bq, i, none⟩) := d13
    have d11 := hd { on := 11, ground := .data } (by simp) (by kernel_rfl) (by kernel_rfl)
    obtain ⟨⟨hown, hat⟩, hQz⟩ := d11
    obtain ⟨A9, c9, hv9, -⟩ := own_shape hown
    have hcell : wv.cell? ⟨bq, i, none⟩ = some (v i) := by
      rw [hQz.cell i]
      rcases i with _ | _ | _ | i <;> first | rfl | omega
    have hfz := hQz.frozen i
    have hset := hQz.set_ i (y 11)
    have hR : But (XE bq (v i) 14) wv (wv.setCell ⟨bq, i, none⟩ (y 11)) := (But.refl (XE bq (v i) 14) wv).setCell (p := ⟨bq, i, none⟩) (.inl (by rfl)) _
    have hown' := own_but hown hR fun k hk he => by
      have := (hown.lt k hk).1
      replace he : k = bq := he
      omega
    have HF := Lib.hid (show But (XE bq (v i) 14) wv (wv.setCell ⟨bq, i, none⟩ (y 11)) ∧ But (fun k => k = bq ∨ some k = (v i).ownBlock) W (wv.setCell ⟨bq, i, none⟩ (y 11)) ∧ ∃ r, Bk (wv.setCell ⟨bq, i, none⟩ (y 11)) bq 74 (#[v 0, v 1, v 2].setIfInBounds i r) ∧ ((wv.setCell ⟨bq, i, none⟩ (y 11)).ownsRow (bq + 1) 27 3 r ((q i).length + 1) ((q i).flatMap Wt.c ++ x.c) ∧ (r.ownBlock = (v i).ownBlock ∨ ∃ g, r.ownBlock = some g ∧ W.heap.size ≤ g)) from
      ⟨hR, hb.trans (hR.mono fun k _ hk => .inl hk), y 11, hset, hown', hat⟩)
    have h11 : y 11 = .slice A9 ((q i).length + 1) c9 := hv9
    rw [h11] at HF
    clear hm hd hz hb hown hat hQz hset hR hown' hv9
    refine ⟨?_⟩
    simp only [fill, Act.put, List.setIfInBounds_toArray, List.set_cons_zero, List.set_cons_succ]
    go_simp
    exact ⟨HF.out.1, HF.out.2.1, undef, HF.out.2.2⟩
  · intro y W2 hb hI
    obtain ⟨r, h1, h2, h3⟩ := hI 14 (by decide) rfl
    clear hI
    have hO2 : ∀ j, j < 3 → j ≠ i → W2.ownsRow (bq + 1) 27 3 (v j) (q j).length ((q j).flatMap Wt.c) := fun j hj hji => own_but (HO.out j hj) hb fun k hk he => by
      rcases he with he | he
      · have := ((HO.out j hj).lt k hk).1
        omega
      · exact HD.out j i k hj hi hji hk he.symm
    have hB2 : Below bq w W2 := hB0.trans (hb.below (fun k hk => by
      rcases hk with hk | hk
      · omega
      · have := ((HO.out i hi).lt k hk.symm).1
        omega) (by rw [HW.out]; omega))
    have hfin : Qs 74 27 W2 bq (upd v i r) (updQ q i x) := by
      have e1 : ∀ j, j ≠ i → upd v i r j = v j := fun j hj => by simp [upd, hj]
      have e2 : ∀ j, j ≠ i → updQ q i x j = q j := fun j hj => by simp [updQ, hj]
      have e3 : upd v i r i = r := by simp [upd]
      have e4 : updQ q i x i = q i ++ [x] := by simp [updQ]
      have hnew : ∀ j b, j < 3 → j ≠ i → r.ownBlock = some b → (v j).ownBlock ≠ some b := fun j b hj hji hr hv => by
        rcases h3 with h | ⟨g, h, hg⟩
        · exact HD.out j i b hj hi hji hv (h ▸ hr)
        · have := HR.out j hj b hv
          rw [h] at hr
          injection hr with hr
          have := HW.out
          omega
      refine ⟨Qs.set_ hi h1, fun j hj => ?_, fun j k b hj hk hjk hb' hb'' => ?_⟩
      · by_cases e : j = i
        · subst e
          rw [e3, e4]
          simpa using h2
        · rw [e1 j e, e2 j e]
          exact hO2 j hj e
      · by_cases ej : j = i
        · subst ej
          rw [e3] at hb'
          rw [e1 k (Ne.symm hjk)] at hb''
          exact hnew k b hk (Ne.symm hjk) hb' hb''
        · rw [e1 j ej] at hb'
          by_cases ek : k = i
          · subst ek
            rw [e3] at hb''
            exact hnew j b hj ej hb'' hb'
          · rw [e1 k ek] at hb''
            exact HD.out j k b hj hk hjk hb' hb''
    have HFIN := Lib.hid hfin
    clear hfin hO2 h1 h2 h3 hb
    refine ⟨?_⟩
    simp only [fill, Act.put, List.setIfInBounds_toArray, List.set_cons_zero, List.set_cons_succ]
    go_wp2
    go_end0
    exact ⟨rfl, ⟨_, HFIN.out⟩, hB2⟩
end Go.Proofs.Ytilokgloocbbnaa
