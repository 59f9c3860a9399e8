/-
  The program's HeaderFrom.
  Conditions: the slice's memory; what the variable errors.errorType holds.
-/
import Derived.Test.YtjpglpglgkopiaaDoorHdK
import Derived.Test.YtjpglpglgkopiaaDoorErA
namespace Go.Proofs.YtjpglpglgkopiaaDoor
open Go.RowKit
set_option linter.unusedVariables false
set_option linter.unusedSimpArgs false

/-- The variable errors.errorType holds what its row lays. -/
def HgOk (w : World) : Prop := w.cell? ⟨0, 0, none⟩ = some (.iface 98 (.agg #[.pointer (some ⟨1, 56, none⟩)]))
theorem HgOk.lt {w : World} (h : HgOk w) : 0 < w.heap.size := World.block_lt_of_cell? w _ h
theorem HgOk.below {w w' : World} {B : Nat} (h : HgOk w) (hb : Below B w w') (hB : 0 < B) : HgOk w' := (hb.cell (p := ⟨0, 0, none⟩) hB).trans h

/-- What HeaderFrom answers. -/
structure HfYes (x : Pk) (w : World) (e : Ending) (w' : World) : Prop where
  e : e = .returned (.tuple #[.agg #[.int .i64 x.wi, .int .i64 x.ti, .int .i64 x.la, .int .i64 x.si, .bool x.ky, .bool x.en], .bool true])
  below : Below w.heap.size w w'
structure HfNo (w : World) (e : Ending) (w' : World) : Prop where
  e : e = .returned (.tuple #[.agg #[.int .i64 0, .int .i64 0, .int .i64 0, .int .i64 0, .bool false, .bool false], .bool false])
  below : Below w.heap.size w w'
def HfRet (near : Int) (zs : List Int) (w : World) (e : Ending) (w' : World) : Prop := (∀ x, hd near zs = some x → HfYes x w e w') ∧ (hd near zs = none → HfNo w e w')
theorem hd_len {near : Int} {zs : List Int} (h : zs.length ≠ 8) : hd near zs = none := by
  cases hq : hd near zs with
  | none => rfl
  | some x =>
    obtain ⟨b0, b1, b2, b3, b4, b5, b6, b7, rfl, -⟩ := hd_some hq
    exact absurd rfl h

set_option maxHeartbeats 8000000 in
set_option maxRecDepth 100000 in
theorem ihf_any (near : Int) (n c : Nat) (A : Option Addr) (zs : List Int) (w : World) (hz : Ints w w.heap.size A n zs) (hn : n ≤ 1099511627776) (hg : HgOk w) :
    Calls Tryd.prog 14 #[.int .i64 near, .slice A n c] w (HfRet near zs w) := by
  have HL := Lib.hid hz.len
  have hr0 := Bk.new w 24 #[.int .i64 0, .int .i64 0, .int .i64 0, .int .i64 0, .bool false, .bool false]
  have hg0 := hg.lt
  by_cases h8 : n = 8
  · subst h8
    have hbx : Below w.heap.size w ((w.alloc (.cells #[.int .i64 0, .int .i64 0, .int .i64 0, .int .i64 0, .bool false, .bool false] 24)).alloc (.cells #[.slice A 8 c, .int .i64 0] 54)) := (by repeat (first | exact Below.refl _ _ | assumption | refine Below.setCell ?_ (by first | omega | (simp; done) | (simp; omega)) _ | refine Below.alloc ?_ (by first | omega | (simp; done) | (simp; omega)) _ | refine Below.drew ?_ | refine Below.drewN' ?_ _ | refine Below.trans ?_ (Below.mono (by assumption) (by first | omega | (simp; done) | (simp; omega)))))
    have hr := hr0.alloc (.cells #[.slice A 8 c, .int .i64 0] 54)
    have hb : Bk ((w.alloc (.cells #[.int .i64 0, .int .i64 0, .int .i64 0, .int .i64 0, .bool false, .bool false] 24)).alloc (.cells #[.slice A 8 c, .int .i64 0] 54)) (w.heap.size + 1) 54 #[.slice A 8 c, .int .i64 ((0 : Nat) : Int)] := by
      have := Bk.new (w.alloc (.cells #[.int .i64 0, .int .i64 0, .int .i64 0, .int .i64 0, .bool false, .bool false] 24)) 54 #[.slice A 8 c, .int .i64 0]
      simpa using this
    have hz2 : Ints ((w.alloc (.cells #[.int .i64 0, .int .i64 0, .int .i64 0, .int .i64 0, .bool false, .bool false] 24)).alloc (.cells #[.slice A 8 c, .int .i64 0] 54)) (w.heap.size + 1) A 8 zs := (hz.below hbx).more (by omega)
    have hpk := pkt_any (w.heap.size + 1) 0 8 c near A zs _ hb hz2 (by omega) (by omega)
    rw [show (zs.drop 0).take 8 = zs by rw [List.drop_zero]; exact List.take_of_length_le (by rw [HL.out]; omega)] at hpk
    have HPK := Lib.hid hpk
    clear hpk hz2
    have hs2 : ((w.alloc (.cells #[.int .i64 0, .int .i64 0, .int .i64 0, .int .i64 0, .bool false, .bool false] 24)).alloc (.cells #[.slice A 8 c, .int .i64 0] 54)).heap.size = w.heap.size + 1 + 1 := by simp
    have HS2 := Lib.hid hs2
    clear hb hs2
    go_enter Tryd.func14, Tryd.ntmps14
    go_wp2_with fail
    refine HPK.out.mono ?_
    rintro e w1 ⟨hy, hx⟩
    clear HPK
    cases hq : hd near zs with
    | some x =>
      obtain ⟨rfl, hbk, ho⟩ := hy x hq
      clear hy hx hbk
      have HQ := Lib.hid hq
      clear hq
      have hB1 : Below w.heap.size w w1 := hbx.trans (ho.below (by omega) hbx.size)
      have hr1 := hr.only ho (by omega)
      have hr1l : w.heap.size < w1.heap.size := hr1.lt
      have hp := (Bk.new w1 24 #[.int .i64 x.wi, .int .i64 x.ti, .int .i64 x.la, .int .i64 x.si, .bool x.ky, .bool x.en]).alloc (.cells #[.pointer none] 59)
      have hr2 := (hr1.alloc (.cells #[.int .i64 x.wi, .int .i64 x.ti, .int .i64 x.la, .int .i64 x.si, .bool x.ky, .bool x.en] 24)).alloc (.cells #[.pointer none] 59)
      have hB2 : Below w.heap.size w ((w1.alloc (.cells #[.int .i64 x.wi, .int .i64 x.ti, .int .i64 x.la, .int .i64 x.si, .bool x.ky, .bool x.en] 24)).alloc (.cells #[.pointer none] 59)) := by
        have := hB1.size
        exact (hB1.alloc (by omega) _).alloc (by simp; omega) _
      clear ho hbx hr hr0 hg HS2 hr2
      go_wp2_with fail
      refine (as_nil _ _).mono ?_
      rintro e w3 ⟨rfl, rfl⟩
      (try clear hr1_c0); (try clear hr1_f0)
      (try clear hr1_c1); (try clear hr1_f1)
      (try clear hr1_c2); (try clear hr1_f2)
      (try clear hr1_c3); (try clear hr1_f3)
      (try clear hr1_c4); (try clear hr1_f4)
      (try clear hr1_c5); (try clear hr1_f5)
      (try clear hr1_lt)
      have hr1_lt := hr1.lt; (try simp only [World.size_alloc] at hr1_lt)
      have hr1_c0 := hr1.cell 0; have hr1_f0 := hr1.frozen 0
      have hr1_c1 := hr1.cell 1; have hr1_f1 := hr1.frozen 1
      have hr1_c2 := hr1.cell 2; have hr1_f2 := hr1.frozen 2
      have hr1_c3 := hr1.cell 3; have hr1_f3 := hr1.frozen 3
      have hr1_c4 := hr1.cell 4; have hr1_f4 := hr1.frozen 4
      have hr1_c5 := hr1.cell 5; have hr1_f5 := hr1.frozen 5
      simp only [List.getElem?_toArray, List.getElem?_cons_zero, List.getElem?_cons_succ] at hr1_c0 hr1_c1 hr1_c2 hr1_c3 hr1_c4 hr1_c5
      go_wp2
      refine ⟨rfl, ?_⟩
      apply Exists.intro
      apply And.intro
      · simp [results, Tryd.results14, go_sem, hr1_c0, hr1_c1, hr1_c2, hr1_c3, hr1_c4, hr1_c5, hr1_lt]; exact rfl
      · exact ⟨fun x' hx' => by
          obtain rfl : x = x' := Option.some.inj (HQ.out.symm.trans hx')
          exact ⟨rfl, Below.alloc (Below.alloc (by repeat (first | with_reducible exact hB1 | with_reducible refine Below.setCell ?_ ?_ _ | exact Nat.le_refl _)) (by first | omega | (simp; done) | (simp; omega)) _) (by first | omega | (simp; done) | (simp; omega)) _⟩, fun hx' => absurd (HQ.out.symm.trans hx') (by simp)⟩
    | none =>
      obtain ⟨a, rfl, ho⟩ := hx hq
      clear hy hx
      have HQ := Lib.hid hq
      clear hq
      have hB1 : Below w.heap.size w w1 := hbx.trans (ho.below (by omega) hbx.size)
      have hr1 := hr.only ho (by omega)
      have hr1l : w.heap.size < w1.heap.size := hr1.lt
      have hB2 : Below w.heap.size w ((w1.alloc (.cells #[.int .i64 0, .int .i64 0, .int .i64 0, .int .i64 0, .bool false, .bool false] 24)).alloc (.cells #[.pointer none] 59)) := by
        have := hB1.size
        exact (hB1.alloc (by omega) _).alloc (by simp; omega) _
      have hr2 := (hr1.alloc (.cells #[.int .i64 0, .int .i64 0, .int .i64 0, .int .i64 0, .bool false, .bool false] 24)).alloc (.cells #[.pointer none] 59)
      have hu : Bk ((w1.alloc (.cells #[.int .i64 0, .int .i64 0, .int .i64 0, .int .i64 0, .bool false, .bool false] 24)).alloc (.cells #[.pointer none] 59)) (w1.heap.size + 1) 59 #[.pointer none] := by
        have := Bk.new (w1.alloc (.cells #[.int .i64 0, .int .i64 0, .int .i64 0, .int .i64 0, .bool false, .bool false] 24)) 59 #[.pointer none]
        simpa using this
      have hg2 := hg.below hB2 hg0
      have HG2 := Lib.hid hg2
      have HU := Lib.hid hu
      clear ho hbx hr hr0 hr1 hg HS2 hg2 hu
      go_wp2_with fail
      refine (as_true a ⟨w1.heap.size + 1, 0, none⟩ (.pointer none) _ HG2.out (HU.out.cell 0) (HU.out.frozen 0)).mono ?_
      rintro e w3 ⟨rfl, ho3⟩
      have hB3 : Below w.heap.size w w3 := hB2.trans (ho3.below (by show w.heap.size ≤ w1.heap.size + 1; omega) hB2.size)
      have hr3 := hr2.only ho3 (by show w.heap.size ≠ w1.heap.size + 1; omega)
      clear ho3 hr2 HU HG2
      (try clear hr3_c0); (try clear hr3_f0)
      (try clear hr3_c1); (try clear hr3_f1)
      (try clear hr3_c2); (try clear hr3_f2)
      (try clear hr3_c3); (try clear hr3_f3)
      (try clear hr3_c4); (try clear hr3_f4)
      (try clear hr3_c5); (try clear hr3_f5)
      (try clear hr3_lt)
      have hr3_lt := hr3.lt; (try simp only [World.size_alloc] at hr3_lt)
      have hr3_c0 := hr3.cell 0; have hr3_f0 := hr3.frozen 0
      have hr3_c1 := hr3.cell 1; have hr3_f1 := hr3.frozen 1
      have hr3_c2 := hr3.cell 2; have hr3_f2 := hr3.frozen 2
      have hr3_c3 := hr3.cell 3; have hr3_f3 := hr3.frozen 3
      have hr3_c4 := hr3.cell 4; have hr3_f4 := hr3.frozen 4
      have hr3_c5 := hr3.cell 5; have hr3_f5 := hr3.frozen 5
      simp only [List.getElem?_toArray, List.getElem?_cons_zero, List.getElem?_cons_succ] at hr3_c0 hr3_c1 hr3_c2 hr3_c3 hr3_c4 hr3_c5
      go_wp2
      refine ⟨rfl, ?_⟩
      apply Exists.intro
      apply And.intro
      · simp [results, Tryd.results14, go_sem, hr3_c0, hr3_c1, hr3_c2, hr3_c3, hr3_c4, hr3_c5, hr3_lt]; exact rfl
      · exact ⟨fun x' hx' => absurd (HQ.out.symm.trans hx') (by simp), fun _ => ⟨rfl, by repeat (first | with_reducible exact hB3 | with_reducible refine Below.setCell ?_ ?_ _ | exact Nat.le_refl _)⟩⟩
  · have HQ := Lib.hid (hd_len (near := near) (zs := zs) (by rw [HL.out]; exact h8))
    have e1 : ((n : Int) != 8) = true := by simp; omega
    have e2 : (n != 8) = true := by simp; omega
    have hB0 := fun o => (Below.refl w.heap.size w).alloc (Nat.le_refl _) o
    clear h8 hg
    go_enter Tryd.func14, Tryd.ntmps14
    (try clear hr0_c0); (try clear hr0_f0)
    (try clear hr0_c1); (try clear hr0_f1)
    (try clear hr0_c2); (try clear hr0_f2)
    (try clear hr0_c3); (try clear hr0_f3)
    (try clear hr0_c4); (try clear hr0_f4)
    (try clear hr0_c5); (try clear hr0_f5)
    (try clear hr0_lt)
    have hr0_lt := hr0.lt; (try simp only [World.size_alloc] at hr0_lt)
    have hr0_c0 := hr0.cell 0; have hr0_f0 := hr0.frozen 0
    have hr0_c1 := hr0.cell 1; have hr0_f1 := hr0.frozen 1
    have hr0_c2 := hr0.cell 2; have hr0_f2 := hr0.frozen 2
    have hr0_c3 := hr0.cell 3; have hr0_f3 := hr0.frozen 3
    have hr0_c4 := hr0.cell 4; have hr0_f4 := hr0.frozen 4
    have hr0_c5 := hr0.cell 5; have hr0_f5 := hr0.frozen 5
    simp only [List.getElem?_toArray, List.getElem?_cons_zero, List.getElem?_cons_succ] at hr0_c0 hr0_c1 hr0_c2 hr0_c3 hr0_c4 hr0_c5
    go_wp2
    refine ⟨rfl, ?_⟩
    apply Exists.intro
    apply And.intro
    · simp [results, Tryd.results14, go_sem, hr0_c0, hr0_c1, hr0_c2, hr0_c3, hr0_c4, hr0_c5, hr0_lt]; exact rfl
    · exact ⟨fun x' hx' => absurd (HQ.out.symm.trans hx') (by simp), fun _ => ⟨rfl, by repeat (first | with_reducible exact hB0 _ | with_reducible refine Below.setCell ?_ ?_ _ | exact Nat.le_refl _)⟩⟩
end Go.Proofs.YtjpglpglgkopiaaDoor
