/-
  Headers: what is drawn: a packet.
  Conditions: the code's memory.
-/
import Derived.Test.YtjpglpglgkopiaaDoorHdD
import Derived.Test.YtjpglpglgkopiaaDoorInv
import Derived.Test.YtjpglpglgkopiaaDoorSlots
import Derived.Test.YtjpglpglgkopiaaDoorBut
namespace Go.Proofs.YtjpglpglgkopiaaDoor
open Go.RowKit
set_option linter.unusedVariables false
set_option linter.unusedSimpArgs false

/-- A packet in a block. -/
def PkBk (T : TypeId) (w : World) (b : Nat) : Prop := ∃ x : Pk, Bk w b T #[.int .i64 x.wi, .int .i64 x.ti, .int .i64 x.la, .int .i64 x.si, .bool x.ky, .bool x.en]
theorem PkBk.drew_ {T : TypeId} {w : World} {b : Nat} (h : PkBk T w b) : PkBk T w.drew b := h
theorem PkBk.only_ {T : TypeId} {w w' : World} {b g : Nat} (h : PkBk T w b) (ho : Only g w w') (hb : b ≠ g) : PkBk T w' b := by
  obtain ⟨x, hx⟩ := h
  exact ⟨x, hx.only ho hb⟩
/-- What the slots hold of the region that turns a packet's time. -/
def IHa (g gp : Nat) : Nat → Value → World → Prop
  | 0, v, _ => v = .pointer (some ⟨gp, 1, none⟩)
  | 1, v, _ => VAny v
  | 2, v, _ => v = .pointer (some ⟨g, 0, none⟩)
  | 3, v, _ => VInt 0 7 v
  | 4, v, _ => VAny v
  | 5, v, _ => VAny v
  | 6, v, _ => v = .pointer (some ⟨gp, 1, none⟩)
  | _, _, _ => True
theorem IHa.mono {g gp : Nat} (j : Nat) (v : Value) (w w' : World) (R : True) (h : IHa g gp j v w) : IHa g gp j v w' := by
  unfold IHa at *
  split at h <;> exact h

/-- A packet was drawn, from a code. -/
def HbDrawn (w : World) (e : Ending) (w' : World) : Prop := ∃ x : Pk, e = .returned (.agg #[.int .i64 x.wi, .int .i64 x.ti, .int .i64 x.la, .int .i64 x.si, .bool x.ky, .bool x.en]) ∧ Below w.heap.size w w'

set_option maxHeartbeats 4000000 in
theorem draw_hb (A : Option Addr) (n c : Nat) (w : World) (h : Bytes w w.heap.size A n) (hnc : n ≤ c) (hc : c ≤ maxLen) :
    Calls Tryd.prog 17 #[.slice A n c] w (HbDrawn w) := by
  have hres := Bk.new w 24 #[.int .i64 0, .int .i64 0, .int .i64 0, .int .i64 0, .bool false, .bool false]
  have hall0 : Below w.heap.size w (w.alloc (.cells #[.int .i64 0, .int .i64 0, .int .i64 0, .int .i64 0, .bool false, .bool false] 24)) := (by repeat (first | exact Below.refl _ _ | assumption | refine Below.setCell ?_ (by first | omega | (simp; done) | (simp; omega)) _ | refine Below.alloc ?_ (by first | omega | (simp; done) | (simp; omega)) _ | refine Below.drew ?_ | refine Below.drewN' ?_ _ | refine Below.trans ?_ (Below.mono (by assumption) (by first | omega | (simp; done) | (simp; omega)))))
  go_enter Tryd.func17, Tryd.ntmps17
  go_wp2_with fail
  refine (open_any A n c _ ((h.below hall0).more (by simp)) hnc hc).mono ?_
  rintro e w1 ⟨rfl, hrd, hb1⟩
  have hB1 := hall0.trans (hb1.mono (by simp))
  have hres1 := hres.below hb1 (by simp)
  simp only [World.size_alloc] at hrd
  have hl1 := hrd.lt
  clear hres hall0 hb1
  go_wp2_with fail
  refine (l91Packet_any _ _ _ _ hrd (by omega)).mono ?_
  rintro e w2 ⟨x, rfl, hrd2, ho⟩
  have hB2 := hB1.trans (ho.below (by omega) (by omega))
  replace hres1 := hres1.only ho (by first | omega | (simp; done) | (simp; omega))
  have hl2 := hrd2.lt
  have hb3 : Below w2.heap.size w2 (w2.alloc (.cells #[.int .i64 x.wi, .int .i64 x.ti, .int .i64 x.la, .int .i64 x.si, .bool x.ky, .bool x.en] 24)) := (by repeat (first | exact Below.refl _ _ | assumption | refine Below.setCell ?_ (by first | omega | (simp; done) | (simp; omega)) _ | refine Below.alloc ?_ (by first | omega | (simp; done) | (simp; omega)) _ | refine Below.drew ?_ | refine Below.drewN' ?_ _ | refine Below.trans ?_ (Below.mono (by assumption) (by first | omega | (simp; done) | (simp; omega)))))
  have hP := Bk.new w2 24 #[.int .i64 x.wi, .int .i64 x.ti, .int .i64 x.la, .int .i64 x.si, .bool x.ky, .bool x.en]
  replace hres1 := hres1.below hb3 hres1.lt
  have hB3 := hB2.trans (hb3.mono hB2.size)
  have hrd3 := hrd2.below hb3
  have hgp : w.heap.size + 1 < w2.heap.size := hl2.2
  clear hrd ho hrd2 hB1 hB2 hb3 hl1
  go_wp2_with fail
  generalize w2.alloc (.cells #[.int .i64 x.wi, .int .i64 x.ti, .int .i64 x.la, .int .i64 x.si, .bool x.ky, .bool x.en] 24) = w3 at *
  generalize w2.heap.size = gp at *
  have HRES := Lib.hid hres1
  have HB3 := Lib.hid hB3
  have hPP : PkBk 24 w3 gp := ⟨x, hP⟩
  clear hres1 hB3 hP
  refine wp_region_inv (fun n w' => Rd w' (w.heap.size + 1) (w.heap.size + 1) (8 + n) ∧ But (fun k => k = w.heap.size + 1 ∨ k = gp) w3 w' ∧ PkBk 24 w' gp) (fun _ _ => True) (IHa (w.heap.size + 1) gp) (by kernel_rfl) (by kernel_rfl) (by kernel_rfl) ⟨Rd.drew hrd3, But.drew (But.refl _ _), hPP.drew_⟩ IHa.mono ⟨?_, ?_, ?_, ?_, ?_, ?_, ?_, ?_, trivial⟩ ?_
  · intro m y wv hm hb hd
    have HB := Lib.hid hb
    clear hd hb
    refine ⟨?_⟩
    simp only [fill, Act.put, List.setIfInBounds_toArray, List.set_cons_zero, List.set_cons_succ]
    go_simp
    exact ⟨⟨HB.out.1.more (by omega), HB.out.2⟩, rfl⟩
  · intro m y wv hm hb hd
    have d0 := hd { on := 0, ground := .data } (by simp) (by kernel_rfl)
    replace d0 : y 0 = .pointer (some ⟨gp, 1, none⟩) := d0
    obtain ⟨hb1, hb2, q, hq⟩ := hb
    have HB := Lib.hid (And.intro hb1 (And.intro hb2 (show PkBk 24 wv gp from ⟨q, hq⟩)))
    (try clear hq_c0); (try clear hq_f0)
    (try clear hq_c1); (try clear hq_f1)
    (try clear hq_c2); (try clear hq_f2)
    (try clear hq_c3); (try clear hq_f3)
    (try clear hq_c4); (try clear hq_f4)
    (try clear hq_c5); (try clear hq_f5)
    (try clear hq_lt)
    have hq_lt := hq.lt; (try simp only [World.size_alloc] at hq_lt)
    have hq_c0 := hq.cell 0; have hq_f0 := hq.frozen 0
    have hq_c1 := hq.cell 1; have hq_f1 := hq.frozen 1
    have hq_c2 := hq.cell 2; have hq_f2 := hq.frozen 2
    have hq_c3 := hq.cell 3; have hq_f3 := hq.frozen 3
    have hq_c4 := hq.cell 4; have hq_f4 := hq.frozen 4
    have hq_c5 := hq.cell 5; have hq_f5 := hq.frozen 5
    simp only [List.getElem?_toArray, List.getElem?_cons_zero, List.getElem?_cons_succ] at hq_c0 hq_c1 hq_c2 hq_c3 hq_c4 hq_c5
    clear hd hb1 hb2
    refine ⟨?_⟩
    simp only [fill, Act.put, List.setIfInBounds_toArray, List.set_cons_zero, List.set_cons_succ]
    go_simp
    exact ⟨⟨HB.out.1.more (by omega), HB.out.2⟩, _, rfl⟩
  · intro m y wv hm hb hd
    have HB := Lib.hid hb
    clear hd hb
    refine ⟨?_⟩
    simp only [fill, Act.put, List.setIfInBounds_toArray, List.set_cons_zero, List.set_cons_succ]
    go_simp
    exact ⟨⟨HB.out.1.more (by omega), HB.out.2⟩, rfl⟩
  · intro m y wv hm hb hd
    have d0 := hd { on := 2, ground := .data } (by simp) (by kernel_rfl)
    replace d0 : y 2 = .pointer (some ⟨w.heap.size + 1, 0, none⟩) := d0
    obtain ⟨hb1, hb2, hb3⟩ := hb
    replace hm : m < 8 := hm
    have HB2 := Lib.hid hb2
    have HB3 := Lib.hid hb3
    clear hd hb2 hb3
    refine ⟨?_⟩
    simp only [fill, Act.put, List.setIfInBounds_toArray, List.set_cons_zero, List.set_cons_succ]
    go_simp
    refine (pick_any _ _ _ _ _ hb1 (by omega) (by omega)).mono ?_
    rintro e w2 ⟨r, rfl, r0, r1, hrd2, ho2, _⟩
    exact ⟨⟨hrd2.more (by omega), HB2.out.trans (But.of_only ho2 (.inl rfl)), HB3.out.only_ ho2 (by omega)⟩, r, rfl, r0, by have := r1 (by omega); omega⟩
  · intro m y wv hm hb hd
    have d3 := hd { on := 3, ground := .data } (by simp) (by kernel_rfl)
    obtain ⟨r, hx3, _⟩ := d3
    have HB := Lib.hid hb
    clear hd hb
    refine ⟨?_⟩
    simp only [fill, Act.put, List.setIfInBounds_toArray, List.set_cons_zero, List.set_cons_succ]
    go_simp
    exact ⟨⟨HB.out.1.more (by omega), HB.out.2⟩, _, rfl⟩
  · intro m y wv hm hb hd
    have d1 := hd { on := 1, ground := .data } (by simp) (by kernel_rfl)
    obtain ⟨z, hx1⟩ := d1
    have d3 := hd { on := 4, ground := .data } (by simp) (by kernel_rfl)
    obtain ⟨r, hx3⟩ := d3
    have HB := Lib.hid hb
    clear hd hb
    refine ⟨?_⟩
    simp only [fill, Act.put, List.setIfInBounds_toArray, List.set_cons_zero, List.set_cons_succ]
    go_simp
    exact ⟨⟨HB.out.1.more (by omega), HB.out.2⟩, _, rfl⟩
  · intro m y wv hm hb hd
    have HB := Lib.hid hb
    clear hd hb
    refine ⟨?_⟩
    simp only [fill, Act.put, List.setIfInBounds_toArray, List.set_cons_zero, List.set_cons_succ]
    go_simp
    exact ⟨⟨HB.out.1.more (by omega), HB.out.2⟩, rfl⟩
  · intro m y wv hm hb hd
    have d0 := hd { on := 6, ground := .data } (by simp) (by kernel_rfl)
    replace d0 : y 6 = .pointer (some ⟨gp, 1, none⟩) := d0
    have d1 := hd { on := 5, ground := .data } (by simp) (by kernel_rfl)
    obtain ⟨z, hx1⟩ := d1
    obtain ⟨hb1, hb2, p, hb3⟩ := hb
    have HB1 := Lib.hid (Rd.setCell (p := ⟨gp, 1, none⟩) hb1 (by show w.heap.size + 1 < gp; omega) (.int .i64 z))
    have HB2 := Lib.hid (hb2.setCell (p := ⟨gp, 1, none⟩) (.inl (.inr rfl)) (.int .i64 z))
    have HB3 := Lib.hid (show PkBk 24 (wv.setCell ⟨gp, 1, none⟩ (.int .i64 z)) gp from ⟨⟨p.wi, z, p.la, p.si, p.ky, p.en⟩, by have := hb3.set_ 1 (.int .i64 z); simpa using this⟩)
    (try clear hb3_c0); (try clear hb3_f0)
    (try clear hb3_c1); (try clear hb3_f1)
    (try clear hb3_c2); (try clear hb3_f2)
    (try clear hb3_c3); (try clear hb3_f3)
    (try clear hb3_c4); (try clear hb3_f4)
    (try clear hb3_c5); (try clear hb3_f5)
    (try clear hb3_lt)
    have hb3_lt := hb3.lt; (try simp only [World.size_alloc] at hb3_lt)
    have hb3_c0 := hb3.cell 0; have hb3_f0 := hb3.frozen 0
    have hb3_c1 := hb3.cell 1; have hb3_f1 := hb3.frozen 1
    have hb3_c2 := hb3.cell 2; have hb3_f2 := hb3.frozen 2
    have hb3_c3 := hb3.cell 3; have hb3_f3 := hb3.frozen 3
    have hb3_c4 := hb3.cell 4; have hb3_f4 := hb3.frozen 4
    have hb3_c5 := hb3.cell 5; have hb3_f5 := hb3.frozen 5
    simp only [List.getElem?_toArray, List.getElem?_cons_zero, List.getElem?_cons_succ] at hb3_c0 hb3_c1 hb3_c2 hb3_c3 hb3_c4 hb3_c5
    clear hd hb1 hb2
    refine ⟨?_⟩
    simp only [fill, Act.put, List.setIfInBounds_toArray, List.set_cons_zero, List.set_cons_succ]
    go_simp
    exact ⟨⟨HB1.out.more (by omega), HB2.out, HB3.out⟩, undef, trivial⟩
  · intro y w5 ⟨hcr, hbt, x5, hP5⟩ hI
    clear hI hPP hcr
    have hres5 := HRES.out.but hbt (by show ¬ (_ ∨ _); omega)
    have hB5 : Below w.heap.size w w5 := HB3.out.trans (hbt.below (fun k hk => by rcases hk with h | h <;> omega) HB3.out.size)
    clear hbt
    (try clear hP5_c0); (try clear hP5_f0)
    (try clear hP5_c1); (try clear hP5_f1)
    (try clear hP5_c2); (try clear hP5_f2)
    (try clear hP5_c3); (try clear hP5_f3)
    (try clear hP5_c4); (try clear hP5_f4)
    (try clear hP5_c5); (try clear hP5_f5)
    (try clear hP5_lt)
    have hP5_lt := hP5.lt; (try simp only [World.size_alloc] at hP5_lt)
    have hP5_c0 := hP5.cell 0; have hP5_f0 := hP5.frozen 0
    have hP5_c1 := hP5.cell 1; have hP5_f1 := hP5.frozen 1
    have hP5_c2 := hP5.cell 2; have hP5_f2 := hP5.frozen 2
    have hP5_c3 := hP5.cell 3; have hP5_f3 := hP5.frozen 3
    have hP5_c4 := hP5.cell 4; have hP5_f4 := hP5.frozen 4
    have hP5_c5 := hP5.cell 5; have hP5_f5 := hP5.frozen 5
    simp only [List.getElem?_toArray, List.getElem?_cons_zero, List.getElem?_cons_succ] at hP5_c0 hP5_c1 hP5_c2 hP5_c3 hP5_c4 hP5_c5
    (try clear hres5_c0); (try clear hres5_f0)
    (try clear hres5_c1); (try clear hres5_f1)
    (try clear hres5_c2); (try clear hres5_f2)
    (try clear hres5_c3); (try clear hres5_f3)
    (try clear hres5_c4); (try clear hres5_f4)
    (try clear hres5_c5); (try clear hres5_f5)
    (try clear hres5_lt)
    have hres5_lt := hres5.lt; (try simp only [World.size_alloc] at hres5_lt)
    have hres5_c0 := hres5.cell 0; have hres5_f0 := hres5.frozen 0
    have hres5_c1 := hres5.cell 1; have hres5_f1 := hres5.frozen 1
    have hres5_c2 := hres5.cell 2; have hres5_f2 := hres5.frozen 2
    have hres5_c3 := hres5.cell 3; have hres5_f3 := hres5.frozen 3
    have hres5_c4 := hres5.cell 4; have hres5_f4 := hres5.frozen 4
    have hres5_c5 := hres5.cell 5; have hres5_f5 := hres5.frozen 5
    simp only [List.getElem?_toArray, List.getElem?_cons_zero, List.getElem?_cons_succ] at hres5_c0 hres5_c1 hres5_c2 hres5_c3 hres5_c4 hres5_c5
    refine ⟨?_⟩
    simp only [fill, Act.put, List.setIfInBounds_toArray, List.set_cons_zero, List.set_cons_succ]
    go_wp2
    refine ⟨rfl, ?_⟩
    apply Exists.intro
    apply And.intro
    · simp [results, Tryd.results17, go_sem, hP5_c0, hP5_c1, hP5_c2, hP5_c3, hP5_c4, hP5_c5, hres5_c0, hres5_c1, hres5_c2, hres5_c3, hres5_c4, hres5_c5, hP5_lt, hres5_lt]; exact rfl
    · exact ⟨x5, rfl, by repeat (first | with_reducible exact hB5 | with_reducible refine Below.setCell ?_ ?_ _ | exact Nat.le_refl _)⟩
end Go.Proofs.YtjpglpglgkopiaaDoor
