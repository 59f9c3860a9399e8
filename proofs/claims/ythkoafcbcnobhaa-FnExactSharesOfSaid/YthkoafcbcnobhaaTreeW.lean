/-
  The tree of shares: the walks of ahead, with, first.
  Conditions: as each theorem states them.
-/
import Derived.Test.YthkoafcbcnobhaaTreeP
namespace Go.Proofs.Ythkoafcbcnobhaa
open Go.RowKit
set_option linter.unusedVariables false
set_option linter.unusedSimpArgs false

set_option maxHeartbeats 2000000 in
theorem ahead_any (g g' : Nat) (x y : El) (u v u' v' : Value) (w : World) (h : Bk w g 74 #[.int .i64 x.pl, .int .i64 x.la, .int .i64 x.we, u, v]) (h' : Bk w g' 74 #[.int .i64 y.pl, .int .i64 y.la, .int .i64 y.we, u', v']) :
    Calls Try.prog 53 #[.pointer (some ⟨g, 0, none⟩), .pointer (some ⟨g', 0, none⟩)] w fun e w' => e = .returned (.bool (decide (x.lt y))) ∧ Below w.heap.size w w' := by
  (try clear h_c0); (try clear h_f0)
  (try clear h_c1); (try clear h_f1)
  (try clear h_c2); (try clear h_f2)
  (try clear h_c3); (try clear h_f3)
  (try clear h_c4); (try clear h_f4)
  (try clear h_lt)
  have h_lt := h.lt; (try simp only [World.size_alloc] at h_lt)
  have h_c0 := h.cell 0; have h_f0 := h.frozen 0
  have h_c1 := h.cell 1; have h_f1 := h.frozen 1
  have h_c2 := h.cell 2; have h_f2 := h.frozen 2
  have h_c3 := h.cell 3; have h_f3 := h.frozen 3
  have h_c4 := h.cell 4; have h_f4 := h.frozen 4
  simp only [List.getElem?_toArray, List.getElem?_cons_zero, List.getElem?_cons_succ] at h_c0 h_c1 h_c2 h_c3 h_c4
  (try clear h'_c0); (try clear h'_f0)
  (try clear h'_c1); (try clear h'_f1)
  (try clear h'_c2); (try clear h'_f2)
  (try clear h'_c3); (try clear h'_f3)
  (try clear h'_c4); (try clear h'_f4)
  (try clear h'_lt)
  have h'_lt := h'.lt; (try simp only [World.size_alloc] at h'_lt)
  have h'_c0 := h'.cell 0; have h'_f0 := h'.frozen 0
  have h'_c1 := h'.cell 1; have h'_f1 := h'.frozen 1
  have h'_c2 := h'.cell 2; have h'_f2 := h'.frozen 2
  have h'_c3 := h'.cell 3; have h'_f3 := h'.frozen 3
  have h'_c4 := h'.cell 4; have h'_f4 := h'.frozen 4
  simp only [List.getElem?_toArray, List.getElem?_cons_zero, List.getElem?_cons_succ] at h'_c0 h'_c1 h'_c2 h'_c3 h'_c4
  by_cases e1 : x.la = y.la
  · by_cases e2 : x.we = y.we
    · have q1 : (x.la != y.la) = false := by simpa using e1
      have q2 : (x.we != y.we) = false := by simpa using e2
      have key := Lib.hid (show decide (x.lt y) = decide (x.pl < y.pl) from decide_eq_decide.2 (by unfold El.lt; omega))
      clear e1 e2
      go_enter Try.func53, Try.ntmps53
      go_wp2_with fail
      go_quiet (fail)
      go_wp2_with fail
      go_quiet (fail)
      go_wp2_with fail
      go_quiet (fail)
      go_wp2
      go_ret
      exact ⟨ret_bool key.out.symm, by repeat (first | exact Below.refl _ _ | refine Below.drewN' ?_ _)⟩
    · have q1 : (x.la != y.la) = false := by simpa using e1
      have q2 : (x.we != y.we) = true := by simpa using e2
      have key := Lib.hid (show decide (x.lt y) = decide (y.we < x.we) from decide_eq_decide.2 (by unfold El.lt; omega))
      clear e1 e2
      go_enter Try.func53, Try.ntmps53
      go_wp2_with fail
      go_quiet (fail)
      go_wp2_with fail
      go_quiet (fail)
      go_wp2_with fail
      go_quiet (fail)
      go_wp2
      go_ret
      exact ⟨ret_bool key.out.symm, by repeat (first | exact Below.refl _ _ | refine Below.drewN' ?_ _)⟩
  · have q1 : (x.la != y.la) = true := by simpa using e1
    have key := Lib.hid (show decide (x.lt y) = decide (x.la < y.la) from decide_eq_decide.2 (by unfold El.lt; omega))
    clear e1
    go_enter Try.func53, Try.ntmps53
    go_wp2_with fail
    go_quiet (fail)
    go_wp2_with fail
    go_quiet (fail)
    go_wp2
    go_ret
    exact ⟨ret_bool key.out.symm, by repeat (first | exact Below.refl _ _ | refine Below.drewN' ?_ _)⟩

/-- What 'with' answers. -/
def WithP (t : Tr) (g : Nat) (x : El) (w : World) (e : Ending) (w' : World) : Prop := e = .returned (t.ins g x).p ∧ TM 74 w' (t.ins g x) ∧ But (fun k => k ∈ t.bs) w w'
theorem Tr.p_ptr : ∀ t : Tr, ∃ a, t.p = .pointer a
  | .nil => ⟨_, rfl⟩
  | .node _ _ _ _ => ⟨_, rfl⟩
theorem ins_lt {g g' : Nat} {x y : El} {l r : Tr} (h : x.lt y) : (Tr.node g' y l r).ins g x = .node g' y (l.ins g x) r := by
  show (if _ then _ else _) = _
  rw [if_pos h]
theorem ins_ge {g g' : Nat} {x y : El} {l r : Tr} (h : ¬ x.lt y) : (Tr.node g' y l r).ins g x = .node g' y l (r.ins g x) := by
  show (if _ then _ else _) = _
  rw [if_neg h]
theorem disj_of {l r : Tr} {g : Nat} {x : El} (hn : (Tr.node g x l r).bs.Nodup) : g ∉ l.bs ∧ g ∉ r.bs ∧ l.bs.Nodup ∧ r.bs.Nodup ∧ ∀ k, k ∈ l.bs → k ∉ r.bs := by
  simp only [Tr.bs, List.nodup_cons, List.nodup_append, List.mem_append, not_or] at hn
  obtain ⟨⟨n1, n2⟩, n3, n4, n5⟩ := hn
  exact ⟨n1, n2, n3, n4, fun k h1 h2 => n5 k h1 k h2 rfl⟩

set_option maxHeartbeats 4000000 in
theorem with_any (g : Nat) (x : El) : ∀ (t : Tr) (w : World), TM 74 w t → Bk w g 74 #[.int .i64 x.pl, .int .i64 x.la, .int .i64 x.we, .pointer none, .pointer none] → g ∉ t.bs → t.bs.Nodup →
    Calls Try.prog 52 #[t.p, .pointer (some ⟨g, 0, none⟩)] w (WithP t g x w) := by
  intro t
  induction t with
  | nil =>
    intro w hm hb hg hn
    show Calls Try.prog 52 #[.pointer none, .pointer (some ⟨g, 0, none⟩)] w _
    have hfin : WithP .nil g x w (.returned (.pointer (some ⟨g, 0, none⟩))) w := ⟨rfl, ⟨hb, trivial, trivial⟩, But.refl _ _⟩
    have HF := Lib.hid hfin
    clear hfin hm hb hg hn
    go_enter Try.func52, Try.ntmps52
    go_wp2
    go_ret
    exact HF.out
  | node g' y l r ihl ihr =>
    intro w hm hb hg hn
    obtain ⟨hy, hl, hr⟩ := hm
    obtain ⟨n1, n2, n3, n4, n5⟩ := disj_of hn
    simp only [Tr.bs, List.mem_cons, List.mem_append, not_or] at hg
    obtain ⟨g1, g2, g3⟩ := hg
    have hah := ahead_any g g' x y _ _ _ _ w hb hy
    have HA := Lib.hid hah
    have HIL := Lib.hid ihl
    have HIR := Lib.hid ihr
    have HB := Lib.hid hb
    have HY := Lib.hid hy
    have HL := Lib.hid hl
    have HR := Lib.hid hr
    have HN := Lib.hid (And.intro n5 (And.intro g2 g3))
    clear hah ihl ihr hb hl hr hn hy
    show Calls Try.prog 52 #[.pointer (some ⟨g', 0, none⟩), .pointer (some ⟨g, 0, none⟩)] w _
    by_cases hc : x.lt y
    · have HA' := Lib.hid (show Calls Try.prog 53 #[.pointer (some ⟨g, 0, none⟩), .pointer (some ⟨g', 0, none⟩)] w fun e w' => e = .returned (.bool true) ∧ Below w.heap.size w w' by
        have h := HA.out
        rw [decide_eq_true hc] at h
        exact h)
      have hfin : ∀ w1 w2 : World, Below w.heap.size w w1 → WithP l g x w1 (.returned (l.ins g x).p) w2 → WithP (.node g' y l r) g x w (.returned (.pointer (some ⟨g', 0, none⟩))) (w2.setCell ⟨g', 3, none⟩ (l.ins g x).p) := fun w1 w2 hb1 hw2 => by
        obtain ⟨-, h2, h3⟩ := hw2
        have hy2 : Bk w2 g' _ _ := (HY.out.below hb1 HY.out.lt).but h3 n1
        have hset := hy2.set_ 3 (l.ins g x).p
        simp only [List.setIfInBounds_toArray, List.set_cons_zero, List.set_cons_succ] at hset
        have hB12 : But (fun k => k ∈ (Tr.node g' y l r).bs) w w2 := (But.of_new hb1).trans (h3.mono fun k _ hk => by simp only [Tr.bs, List.mem_cons, List.mem_append]; exact .inr (.inl hk))
        have hrr : TM _ w2 r := TM.but h3 (TM.new HR.out hb1) fun k hk h => HN.out.1 k h hk
        refine ⟨by rw [ins_lt hc]; rfl, ?_, hB12.setCell (.inl (by simp [Tr.bs])) _⟩
        rw [ins_lt hc]
        exact ⟨hset, TM.but (X := fun k => k = g') (But.of_only (Only.set_ g' 3 w2 _) rfl) h2 fun k hk e => by
          subst e
          rcases (Tr.bs_ins g x l k).1 hk with rfl | h
          · exact g1 rfl
          · exact n1 h, TM.but (X := fun k => k = g') (But.of_only (Only.set_ g' 3 w2 _) rfl) hrr fun k hk e => by subst e; exact n2 hk⟩
      have HF := Lib.hid hfin
      clear hfin
      obtain ⟨q, hpl⟩ := Tr.p_ptr (l.ins g x)
      rw [hpl] at HF
      go_enter Try.func52, Try.ntmps52
      go_wp2_with (first | (go_at_call 53; refine HA'.out.mono ?_; rintro e w1 ⟨rfl, hb1⟩; have hy1 := HY.out.below hb1 HY.out.lt; have hy3 := hy1.cell 3; simp only [List.getElem?_toArray, List.getElem?_cons_zero, List.getElem?_cons_succ] at hy3) | (go_at_call 52; refine (HIL.out _ (TM.new HL.out hb1) (HB.out.below hb1 HB.out.lt) g2 n3).mono ?_; rintro e w2 hw2; have hq := hw2.1; rw [hpl] at hq; subst hq; have hy4 := (hy1.but hw2.2.2 n1).cell 3; have hf4 := (hy1.but hw2.2.2 n1).frozen 3; simp only [List.getElem?_toArray, List.getElem?_cons_zero, List.getElem?_cons_succ] at hy4))
      go_ret
      exact HF.out _ _ hb1 hw2
    · have HA' := Lib.hid (show Calls Try.prog 53 #[.pointer (some ⟨g, 0, none⟩), .pointer (some ⟨g', 0, none⟩)] w fun e w' => e = .returned (.bool false) ∧ Below w.heap.size w w' by
        have h := HA.out
        rw [decide_eq_false hc] at h
        exact h)
      have hfin : ∀ w1 w2 : World, Below w.heap.size w w1 → WithP r g x w1 (.returned (r.ins g x).p) w2 → WithP (.node g' y l r) g x w (.returned (.pointer (some ⟨g', 0, none⟩))) (w2.setCell ⟨g', 4, none⟩ (r.ins g x).p) := fun w1 w2 hb1 hw2 => by
        obtain ⟨-, h2, h3⟩ := hw2
        have hy2 : Bk w2 g' _ _ := (HY.out.below hb1 HY.out.lt).but h3 n2
        have hset := hy2.set_ 4 (r.ins g x).p
        simp only [List.setIfInBounds_toArray, List.set_cons_zero, List.set_cons_succ] at hset
        have hB12 : But (fun k => k ∈ (Tr.node g' y l r).bs) w w2 := (But.of_new hb1).trans (h3.mono fun k _ hk => by simp only [Tr.bs, List.mem_cons, List.mem_append]; exact .inr (.inr hk))
        have hll : TM _ w2 l := TM.but h3 (TM.new HL.out hb1) fun k hk h => HN.out.1 k hk h
        refine ⟨by rw [ins_ge hc]; rfl, ?_, hB12.setCell (.inl (by simp [Tr.bs])) _⟩
        rw [ins_ge hc]
        exact ⟨hset, TM.but (X := fun k => k = g') (But.of_only (Only.set_ g' 4 w2 _) rfl) hll fun k hk e => by subst e; exact n1 hk, TM.but (X := fun k => k = g') (But.of_only (Only.set_ g' 4 w2 _) rfl) h2 fun k hk e => by
          subst e
          rcases (Tr.bs_ins g x r k).1 hk with rfl | h
          · exact g1 rfl
          · exact n2 h⟩
      have HF := Lib.hid hfin
      clear hfin
      obtain ⟨q, hpl⟩ := Tr.p_ptr (r.ins g x)
      rw [hpl] at HF
      go_enter Try.func52, Try.ntmps52
      go_wp2_with (first | (go_at_call 53; refine HA'.out.mono ?_; rintro e w1 ⟨rfl, hb1⟩; have hy1 := HY.out.below hb1 HY.out.lt; have hy3 := hy1.cell 4; simp only [List.getElem?_toArray, List.getElem?_cons_zero, List.getElem?_cons_succ] at hy3) | (go_at_call 52; refine (HIR.out _ (TM.new HR.out hb1) (HB.out.below hb1 HB.out.lt) g3 n4).mono ?_; rintro e w2 hw2; have hq := hw2.1; rw [hpl] at hq; subst hq; have hy4 := (hy1.but hw2.2.2 n2).cell 4; have hf4 := (hy1.but hw2.2.2 n2).frozen 4; simp only [List.getElem?_toArray, List.getElem?_cons_zero, List.getElem?_cons_succ] at hy4))
      go_ret
      exact HF.out _ _ hb1 hw2
end Go.Proofs.Ythkoafcbcnobhaa
