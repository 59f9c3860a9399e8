/-
  The reference's HeaderFrom.
  Conditions: the slice's memory.
-/
import Derived.StillTailTactics
import Derived.Test.YtjpglpglgkopiaaDoorBut
import Derived.Test.YtjpglpglgkopiaaDoorHdL
namespace Go.Proofs.YtjpglpglgkopiaaDoor
open Go.RowKit
set_option linter.unusedVariables false
set_option linter.unusedSimpArgs false

theorem same_rev {P : Program} {f : FuncId} {args : Array Value} {w : World} {v : Value} (h : Calls P f args w fun e w' => e = .returned v ∧ w = w') : Calls P f args w fun e w' => e = .returned v ∧ w' = w :=
  h.mono fun _ _ ⟨h1, h2⟩ => ⟨h1, h2.symm⟩
theorem spec_wide_two (near a : Int) : ∃ (wd : Int) (wok : Bool), (∀ w, Calls Tryd.prog 36 #[.int .i64 near, .int .i64 a] w fun e w' => e = .returned (.tuple #[.int .i64 wd, .bool wok]) ∧ w' = w) ∧ (wok = true → WideOk near a ∧ wd = wideNum near a) ∧ (wok = false → ¬ WideOk near a) := by
  by_cases h : WideOk near a
  · exact ⟨_, true, fun w => same_rev (spec_wide_ok h w), fun _ => ⟨h, rfl⟩, (fun h => by cases h)⟩
  · exact ⟨_, false, fun w => same_rev (spec_wide_no h w), (fun h => by cases h), fun _ => h⟩
theorem wrap_in {x : Int} (h0 : -9223372036854775808 ≤ x) (h1 : x ≤ 9223372036854775807) : IntKind.i64.wrap x = x := by rw [IntKind.wrap_i64]; omega
theorem isB_8 {b0 b1 b2 b3 b4 b5 b6 b7 : Int} (h : isB b0 ∧ isB b1 ∧ isB b2 ∧ isB b3 ∧ isB b4 ∧ isB b5 ∧ isB b6 ∧ isB b7) : allB [b0, b1, b2, b3, b4, b5, b6, b7] := by
  show bOk [b0, b1, b2, b3, b4, b5, b6, b7] 0 8
  exact bOk_8.2 h

set_option maxHeartbeats 2000000 in
set_option maxRecDepth 100000 in
theorem shf_any (near : Int) (n c : Nat) (A : Option Addr) (zs : List Int) (w : World) (hz : Ints w w.heap.size A n zs) (hn : n ≤ 1099511627776) :
    Calls Tryd.prog 12 #[.int .i64 near, .slice A n c] w (HfRet near zs w) := by
  have HL := Lib.hid hz.len
  have hr0 := Bk.new w 24 #[.int .i64 0, .int .i64 0, .int .i64 0, .int .i64 0, .bool false, .bool false]
  have hB0 : Below w.heap.size w (w.alloc (.cells #[.int .i64 0, .int .i64 0, .int .i64 0, .int .i64 0, .bool false, .bool false] 24)) := (by repeat (first | exact Below.refl _ _ | assumption | refine Below.setCell ?_ (by first | omega | (simp; done) | (simp; omega)) _ | refine Below.alloc ?_ (by first | omega | (simp; done) | (simp; omega)) _ | refine Below.drew ?_ | refine Below.drewN' ?_ _ | refine Below.trans ?_ (Below.mono (by assumption) (by first | omega | (simp; done) | (simp; omega)))))
  by_cases h8 : n = 8
  rotate_left
  · have HQ := Lib.hid (hd_len (near := near) (zs := zs) (by rw [HL.out]; exact h8))
    have e1 : ((n : Int) != 8) = true := by simp; omega
    have e2 : (n != 8) = true := by simp; omega
    clear h8
    go_enter Tryd.func12, Tryd.ntmps12
    (try clear hr0_c0); (try clear hr0_f0)
    (try clear hr0_c1); (try clear hr0_f1)
    (try clear hr0_c2); (try clear hr0_f2)
    (try clear hr0_c3); (try clear hr0_f3)
    (try clear hr0_c4); (try clear hr0_f4)
    (try clear hr0_c5); (try clear hr0_f5)
    (try clear hr0_lt)
    have hr0_lt := hr0.lt; (try simp only [World.size_alloc] at hr0_lt)
    have hr0_c0 := hr0.cell 0; have hr0_f0 := hr0.frozen 0
    have hr0_c1 := hr0.cell 1; have hr0_f1 := hr0.frozen 1
    have hr0_c2 := hr0.cell 2; have hr0_f2 := hr0.frozen 2
    have hr0_c3 := hr0.cell 3; have hr0_f3 := hr0.frozen 3
    have hr0_c4 := hr0.cell 4; have hr0_f4 := hr0.frozen 4
    have hr0_c5 := hr0.cell 5; have hr0_f5 := hr0.frozen 5
    simp only [List.getElem?_toArray, List.getElem?_cons_zero, List.getElem?_cons_succ] at hr0_c0 hr0_c1 hr0_c2 hr0_c3 hr0_c4 hr0_c5
    go_wp2
    refine ⟨rfl, ?_⟩
    apply Exists.intro
    apply And.intro
    · simp [results, Tryd.results12, go_sem, hr0_c0, hr0_c1, hr0_c2, hr0_c3, hr0_c4, hr0_c5, hr0_lt]; exact rfl
    · exact ⟨fun x' hx' => absurd (HQ.out.symm.trans hx') (by simp), fun _ => ⟨rfl, by repeat (first | with_reducible exact hB0 | with_reducible refine Below.setCell ?_ ?_ _ | exact Nat.le_refl _)⟩⟩
  subst h8
  have hl16 := l16_any 8 c A zs _ ((hz.below hB0).more (by simp)) (by omega)
  go_enter Tryd.func12, Tryd.ntmps12
  go_wp2_with fail
  refine hl16.mono ?_
  rintro e w1 ⟨rfl, hb1⟩
  clear hl16
  have hB1 : Below w.heap.size w w1 := hB0.trans (hb1.mono (by simp))
  have hr1 := hr0.below hb1 (by simp)
  clear hr0 hB0 hb1
  have hr1l : w.heap.size < w1.heap.size := hr1.lt
  cases hq : allBB zs with
  | false =>
    have HQ := Lib.hid (show hd near zs = none by
      cases hh : hd near zs with
      | none => rfl
      | some x =>
        obtain ⟨b0, b1, b2, b3, b4, b5, b6, b7, rfl, ho, -⟩ := hd_some hh
        exact absurd (isB_8 ho.1) (allBB_false.1 hq))
    clear hq
    (try clear hr1_c0); (try clear hr1_f0)
    (try clear hr1_c1); (try clear hr1_f1)
    (try clear hr1_c2); (try clear hr1_f2)
    (try clear hr1_c3); (try clear hr1_f3)
    (try clear hr1_c4); (try clear hr1_f4)
    (try clear hr1_c5); (try clear hr1_f5)
    (try clear hr1_lt)
    have hr1_lt := hr1.lt; (try simp only [World.size_alloc] at hr1_lt)
    have hr1_c0 := hr1.cell 0; have hr1_f0 := hr1.frozen 0
    have hr1_c1 := hr1.cell 1; have hr1_f1 := hr1.frozen 1
    have hr1_c2 := hr1.cell 2; have hr1_f2 := hr1.frozen 2
    have hr1_c3 := hr1.cell 3; have hr1_f3 := hr1.frozen 3
    have hr1_c4 := hr1.cell 4; have hr1_f4 := hr1.frozen 4
    have hr1_c5 := hr1.cell 5; have hr1_f5 := hr1.frozen 5
    simp only [List.getElem?_toArray, List.getElem?_cons_zero, List.getElem?_cons_succ] at hr1_c0 hr1_c1 hr1_c2 hr1_c3 hr1_c4 hr1_c5
    go_wp2
    refine ⟨rfl, ?_⟩
    apply Exists.intro
    apply And.intro
    · simp [results, Tryd.results12, go_sem, hr1_c0, hr1_c1, hr1_c2, hr1_c3, hr1_c4, hr1_c5, hr1_lt]; exact rfl
    · exact ⟨fun x' hx' => absurd (HQ.out.symm.trans hx') (by simp), fun _ => ⟨rfl, by repeat (first | with_reducible exact hB1 | with_reducible refine Below.setCell ?_ ?_ _ | exact Nat.le_refl _)⟩⟩
  | true =>
    have hall := allBB_true.1 hq
    clear hq
    obtain ⟨z0, z1, z2, z3, z4, z5, z6, z7, rfl⟩ := list8 HL.out
    replace hall : isB z0 ∧ isB z1 ∧ isB z2 ∧ isB z3 ∧ isB z4 ∧ isB z5 ∧ isB z6 ∧ isB z7 := by
      have := bOk_8.1 (show bOk [z0, z1, z2, z3, z4, z5, z6, z7] 0 8 from hall)
      simpa using this
    obtain ⟨b, off, rfl, hb, hcell⟩ := hz.at_ (by omega)
    have cc := fun j (hj : j < 8) => (hB1.cell (p := ⟨b, off + j, none⟩) hb).trans (hcell j hj)
    have c0 : w1.cell? ⟨b, off, none⟩ = some (.int .i64 z0) := cc 0 (by omega)
    have c1 : w1.cell? ⟨b, off + 1, none⟩ = some (.int .i64 z1) := cc 1 (by omega)
    have c2 : w1.cell? ⟨b, off + 2, none⟩ = some (.int .i64 z2) := cc 2 (by omega)
    have c3 : w1.cell? ⟨b, off + 3, none⟩ = some (.int .i64 z3) := cc 3 (by omega)
    have c4 : w1.cell? ⟨b, off + 4, none⟩ = some (.int .i64 z4) := cc 4 (by omega)
    have c5 : w1.cell? ⟨b, off + 5, none⟩ = some (.int .i64 z5) := cc 5 (by omega)
    have c6 : w1.cell? ⟨b, off + 6, none⟩ = some (.int .i64 z6) := cc 6 (by omega)
    have c7 : w1.cell? ⟨b, off + 7, none⟩ = some (.int .i64 z7) := cc 7 (by omega)
    clear cc hcell hz HL
    have HA := Lib.hid hall
    obtain ⟨⟨a00, a01⟩, ⟨a10, a11⟩, ⟨a20, a21⟩, ⟨a30, a31⟩, ⟨a40, a41⟩, ⟨a50, a51⟩, ⟨a60, a61⟩, ⟨a70, a71⟩⟩ := hall
    have hbr : b < w1.heap.size := by omega
    by_cases h15 : z5 ≤ 15
    rotate_left
    · have e1 : decide (15 < z5) = true := by simp; omega
      have HQ := Lib.hid (show hd near [z0, z1, z2, z3, z4, z5, z6, z7] = none from hd_no fun ho => h15 ho.2.1)
      (try clear hr1_c0); (try clear hr1_f0)
      (try clear hr1_c1); (try clear hr1_f1)
      (try clear hr1_c2); (try clear hr1_f2)
      (try clear hr1_c3); (try clear hr1_f3)
      (try clear hr1_c4); (try clear hr1_f4)
      (try clear hr1_c5); (try clear hr1_f5)
      (try clear hr1_lt)
      have hr1_lt := hr1.lt; (try simp only [World.size_alloc] at hr1_lt)
      have hr1_c0 := hr1.cell 0; have hr1_f0 := hr1.frozen 0
      have hr1_c1 := hr1.cell 1; have hr1_f1 := hr1.frozen 1
      have hr1_c2 := hr1.cell 2; have hr1_f2 := hr1.frozen 2
      have hr1_c3 := hr1.cell 3; have hr1_f3 := hr1.frozen 3
      have hr1_c4 := hr1.cell 4; have hr1_f4 := hr1.frozen 4
      have hr1_c5 := hr1.cell 5; have hr1_f5 := hr1.frozen 5
      simp only [List.getElem?_toArray, List.getElem?_cons_zero, List.getElem?_cons_succ] at hr1_c0 hr1_c1 hr1_c2 hr1_c3 hr1_c4 hr1_c5
      go_wp2
      refine ⟨rfl, ?_⟩
      apply Exists.intro
      apply And.intro
      · simp [results, Tryd.results12, go_sem, hr1_c0, hr1_c1, hr1_c2, hr1_c3, hr1_c4, hr1_c5, hr1_lt]; exact rfl
      · exact ⟨fun x' hx' => absurd (HQ.out.symm.trans hx') (by simp), fun _ => ⟨rfl, by repeat (first | with_reducible exact hB1 | with_reducible refine Below.setCell ?_ ?_ _ | exact Nat.le_refl _)⟩⟩
    have e1 : decide (15 < z5) = false := by simp; omega
    obtain ⟨wd, wok, hv, hw1, hw0⟩ := spec_wide_two near (256 * z0 + z1)
    have HV := Lib.hid hv
    have HW1 := Lib.hid hw1
    have HW0 := Lib.hid hw0
    clear hv hw1 hw0
    go_wp2_with fail
    have x1 := wrap_in (x := 256 * z0) (by omega) (by omega)
    have x2 := wrap_in (x := 256 * z0 + z1) (by omega) (by omega)
    have hv := HV.out
    go_quiet ((go_at_call 36; exact Calls.quiet_of_same (hv _)))
    clear x1 x2 hv
    obtain ⟨w2, hw2⟩ : ∃ w2, w1.drewN nq = w2 := ⟨_, rfl⟩
    have hB2 : Below w.heap.size w w2 := by rw [← hw2]; exact Below.drewN' hB1 nq
    have hr2 : Bk w2 w.heap.size 24 #[.int .i64 0, .int .i64 0, .int .i64 0, .int .i64 0, .bool false, .bool false] := by rw [← hw2]; exact hr1.drewN nq
    replace c2 : w2.cell? ⟨b, off + 2, none⟩ = some (.int .i64 z2) := by rw [← hw2]; exact c2
    replace c3 : w2.cell? ⟨b, off + 3, none⟩ = some (.int .i64 z3) := by rw [← hw2]; exact c3
    replace c4 : w2.cell? ⟨b, off + 4, none⟩ = some (.int .i64 z4) := by rw [← hw2]; exact c4
    replace c5 : w2.cell? ⟨b, off + 5, none⟩ = some (.int .i64 z5) := by rw [← hw2]; exact c5
    replace c6 : w2.cell? ⟨b, off + 6, none⟩ = some (.int .i64 z6) := by rw [← hw2]; exact c6
    replace c7 : w2.cell? ⟨b, off + 7, none⟩ = some (.int .i64 z7) := by rw [← hw2]; exact c7
    rw [hw2]
    have hr2l : w.heap.size < w2.heap.size := hr2.lt
    clear hw2 hr1 hB1 c0 c1 hr1l hbr
    go_wp2_with fail
    have x1 := wrap_in (x := 65536 * z2) (by omega) (by omega)
    have x2 := wrap_in (x := 256 * z3) (by omega) (by omega)
    have x3 := wrap_in (x := 65536 * z2 + 256 * z3) (by omega) (by omega)
    have x4 := wrap_in (x := 65536 * z2 + 256 * z3 + z4) (by omega) (by omega)
    have x5 := wrap_in (x := 256 * z6) (by omega) (by omega)
    have x6 := wrap_in (x := 256 * z6 + z7) (by omega) (by omega)
    have x7 := wrap_in (x := z5 / 4) (by omega) (by omega)
    have x8 := wrap_in (x := z5 / 8) (by omega) (by omega)
    obtain ⟨la, hla⟩ : ∃ la, z5 % 4 = la := ⟨_, rfl⟩
    have m1 : Int.tmod z5 4 = la := by rw [Int.tmod_eq_emod_of_nonneg a50]; exact hla
    have m2 : Int.tdiv z5 4 = z5 / 4 := Int.tdiv_eq_ediv_of_nonneg a50
    have m3 : Int.tmod (z5 / 4) 2 = z5 / 4 % 2 := Int.tmod_eq_emod_of_nonneg (by omega)
    have m4 : Int.tdiv z5 8 = z5 / 8 := Int.tdiv_eq_ediv_of_nonneg a50
    go_region_held3 (fun w' => w'.cell? ⟨b, off + 2, none⟩ = some (.int .i64 z2) ∧ w'.cell? ⟨b, off + 3, none⟩ = some (.int .i64 z3) ∧ w'.cell? ⟨b, off + 4, none⟩ = some (.int .i64 z4) ∧ w'.cell? ⟨b, off + 5, none⟩ = some (.int .i64 z5) ∧ w'.cell? ⟨b, off + 6, none⟩ = some (.int .i64 z6) ∧ w'.cell? ⟨b, off + 7, none⟩ = some (.int .i64 z7)) ((first | go_keep | (repeat' (first | with_reducible assumption | apply And.intro | rw [World.cell?_setCell_other _ _ _ _ (fun e => by injection e; omega)])))) (fail)
    clear x1 x2 x3 x4 x5 x6 x7 x8 m1 m2 m3 m4
    generalize hf1 : 65536 * z2 + 256 * z3 + z4 = f1
    generalize hf3 : 256 * z6 + z7 = f3
    generalize hkb : (z5 / 4 % 2 == 1) = kb
    generalize hlb : (z5 / 8 == 1) = lb
    have HF1 := Lib.hid hf1
    have HF3 := Lib.hid hf3
    clear hf1 hf3
    cases wok
    · have HQ := Lib.hid (show hd near [z0, z1, z2, z3, z4, z5, z6, z7] = none from hd_no fun ho => HW0.out rfl ho.2.2.1)
      (try clear hr2_c0); (try clear hr2_f0)
      (try clear hr2_c1); (try clear hr2_f1)
      (try clear hr2_c2); (try clear hr2_f2)
      (try clear hr2_c3); (try clear hr2_f3)
      (try clear hr2_c4); (try clear hr2_f4)
      (try clear hr2_c5); (try clear hr2_f5)
      (try clear hr2_lt)
      have hr2_lt := hr2.lt; (try simp only [World.size_alloc] at hr2_lt)
      have hr2_c0 := hr2.cell 0; have hr2_f0 := hr2.frozen 0
      have hr2_c1 := hr2.cell 1; have hr2_f1 := hr2.frozen 1
      have hr2_c2 := hr2.cell 2; have hr2_f2 := hr2.frozen 2
      have hr2_c3 := hr2.cell 3; have hr2_f3 := hr2.frozen 3
      have hr2_c4 := hr2.cell 4; have hr2_f4 := hr2.frozen 4
      have hr2_c5 := hr2.cell 5; have hr2_f5 := hr2.frozen 5
      simp only [List.getElem?_toArray, List.getElem?_cons_zero, List.getElem?_cons_succ] at hr2_c0 hr2_c1 hr2_c2 hr2_c3 hr2_c4 hr2_c5
      go_wp2
      refine ⟨rfl, ?_⟩
      apply Exists.intro
      apply And.intro
      · simp [results, Tryd.results12, go_sem, hr2_c0, hr2_c1, hr2_c2, hr2_c3, hr2_c4, hr2_c5, hr2_lt]; exact rfl
      · exact ⟨fun x' hx' => absurd (HQ.out.symm.trans hx') (by simp), fun _ => ⟨rfl, Below.drew (Below.alloc (by repeat (first | with_reducible exact hB2 | with_reducible refine Below.setCell ?_ ?_ _ | exact Nat.le_refl _)) (by first | omega | (simp; done) | (simp; omega)) _)⟩⟩
    · obtain ⟨hwo, hwe⟩ := HW1.out rfl
      have HP := Lib.hid (show hP (wideNum near (256 * z0 + z1)) z2 z3 z4 z5 z6 z7 = ⟨wd, f1, la, f3, kb, lb⟩ by unfold hP; rw [← hwe, hla, hkb, hlb, HF1.out, HF3.out])
      have HWO := Lib.hid hwo
      have hp := Bk.drew (Bk.new w2 24 #[.int .i64 wd, .int .i64 f1, .int .i64 la, .int .i64 f3, .bool kb, .bool lb])
      have hr3 := (hr2.alloc (.cells #[.int .i64 wd, .int .i64 f1, .int .i64 la, .int .i64 f3, .bool kb, .bool lb] 24)).drew
      have hB3 : Below w.heap.size w (w2.alloc (.cells #[.int .i64 wd, .int .i64 f1, .int .i64 la, .int .i64 f3, .bool kb, .bool lb] 24)).drew := Below.drew (Below.alloc hB2 (Nat.le_of_lt hr2l) _)
      have HPB := Lib.hid hp
      have HR3 := Lib.hid hr3
      have HB3 := Lib.hid hB3
      clear hp hr3 hB3 hwo hwe hla hkb hlb
      go_wp2_with fail
      refine (spk_any ⟨wd, f1, la, f3, kb, lb⟩ _).mono ?_
      rintro e w3 ⟨rfl, hb3⟩
      have hp3 := HPB.out.below hb3 HPB.out.lt
      have hr3 := HR3.out.below hb3 HR3.out.lt
      have hB3 := HB3.out.trans (hb3.mono HB3.out.size)
      have hl3 : w2.heap.size < w3.heap.size := hp3.lt
      clear hb3
      (try clear hr3_c0); (try clear hr3_f0)
      (try clear hr3_c1); (try clear hr3_f1)
      (try clear hr3_c2); (try clear hr3_f2)
      (try clear hr3_c3); (try clear hr3_f3)
      (try clear hr3_c4); (try clear hr3_f4)
      (try clear hr3_c5); (try clear hr3_f5)
      (try clear hr3_lt)
      have hr3_lt := hr3.lt; (try simp only [World.size_alloc] at hr3_lt)
      have hr3_c0 := hr3.cell 0; have hr3_f0 := hr3.frozen 0
      have hr3_c1 := hr3.cell 1; have hr3_f1 := hr3.frozen 1
      have hr3_c2 := hr3.cell 2; have hr3_f2 := hr3.frozen 2
      have hr3_c3 := hr3.cell 3; have hr3_f3 := hr3.frozen 3
      have hr3_c4 := hr3.cell 4; have hr3_f4 := hr3.frozen 4
      have hr3_c5 := hr3.cell 5; have hr3_f5 := hr3.frozen 5
      simp only [List.getElem?_toArray, List.getElem?_cons_zero, List.getElem?_cons_succ] at hr3_c0 hr3_c1 hr3_c2 hr3_c3 hr3_c4 hr3_c5
      cases hq : pkB ⟨wd, f1, la, f3, kb, lb⟩ with
      | true =>
        have HQ := Lib.hid (show hd near [z0, z1, z2, z3, z4, z5, z6, z7] = some ⟨wd, f1, la, f3, kb, lb⟩ by
          rw [hd_ok ⟨HA.out, h15, HWO.out, by rw [HP.out]; exact of_decide_eq_true hq⟩, HP.out])
        clear hq
        (try clear hp3_c0); (try clear hp3_f0)
        (try clear hp3_c1); (try clear hp3_f1)
        (try clear hp3_c2); (try clear hp3_f2)
        (try clear hp3_c3); (try clear hp3_f3)
        (try clear hp3_c4); (try clear hp3_f4)
        (try clear hp3_c5); (try clear hp3_f5)
        (try clear hp3_lt)
        have hp3_lt := hp3.lt; (try simp only [World.size_alloc] at hp3_lt)
        have hp3_c0 := hp3.cell 0; have hp3_f0 := hp3.frozen 0
        have hp3_c1 := hp3.cell 1; have hp3_f1 := hp3.frozen 1
        have hp3_c2 := hp3.cell 2; have hp3_f2 := hp3.frozen 2
        have hp3_c3 := hp3.cell 3; have hp3_f3 := hp3.frozen 3
        have hp3_c4 := hp3.cell 4; have hp3_f4 := hp3.frozen 4
        have hp3_c5 := hp3.cell 5; have hp3_f5 := hp3.frozen 5
        simp only [List.getElem?_toArray, List.getElem?_cons_zero, List.getElem?_cons_succ] at hp3_c0 hp3_c1 hp3_c2 hp3_c3 hp3_c4 hp3_c5
        go_wp2
        refine ⟨rfl, ?_⟩
        apply Exists.intro
        apply And.intro
        · simp [results, Tryd.results12, go_sem, hr3_c0, hr3_c1, hr3_c2, hr3_c3, hr3_c4, hr3_c5, hr3_lt]; exact rfl
        · refine ⟨fun x' hx' => ?_, fun hx' => absurd (HQ.out.symm.trans hx') (by simp)⟩
          obtain rfl := Option.some.inj (HQ.out.symm.trans hx')
          exact ⟨rfl, by repeat (first | with_reducible exact hB3 | with_reducible refine Below.setCell ?_ ?_ _ | exact Nat.le_refl _)⟩
      | false =>
        have HQ := Lib.hid (show hd near [z0, z1, z2, z3, z4, z5, z6, z7] = none from hd_no fun ho => of_decide_eq_false hq (by rw [← HP.out]; exact ho.2.2.2))
        clear hq
        go_wp2
        refine ⟨rfl, ?_⟩
        apply Exists.intro
        apply And.intro
        · simp [results, Tryd.results12, go_sem, hr3_c0, hr3_c1, hr3_c2, hr3_c3, hr3_c4, hr3_c5, hr3_lt]; exact rfl
        · exact ⟨fun x' hx' => absurd (HQ.out.symm.trans hx') (by simp), fun _ => ⟨rfl, by repeat (first | with_reducible exact hB3 | with_reducible refine Below.setCell ?_ ?_ _ | exact Nat.le_refl _)⟩⟩
end Go.Proofs.YtjpglpglgkopiaaDoor
