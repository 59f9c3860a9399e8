/-
  Rings: a packet of the program's ring by its number.
  Conditions: the ring is valid, the number in range.
-/
import Derived.Test.YtjhppghkhfacaaaRgF
import Derived.Test.YtjhppghkhfacaaaRgN
import Derived.Test.YtjhppghkhfacaaaRgL
namespace Go.Proofs.Ytjhppghkhfacaaa
open Go.RowKit
set_option linter.unusedVariables false
set_option linter.unusedSimpArgs false

set_option maxHeartbeats 8000000 in
theorem iget_any (r q j : Nat) (A : Option Addr) (n c : Nat) (xs : List Pk) (x : Pk) (w : World) (h : Pks w w.heap.size A n xs) (hrg : rgOk r q xs) (hj0 : q - n ≤ j) (hj1 : j < q) (hx : xs[j - (q - n)]? = some x) :
    Calls Try.prog 12 #[.agg #[.int .i64 r, .int .i64 q, .slice A n c], .int .i64 j] w fun e w' => e = .returned (.tuple #[.agg #[.int .i64 x.wi, .int .i64 x.ti, .int .i64 x.la, .int .i64 x.si, .bool x.ky, .bool x.en], .bool true]) ∧ Below w.heap.size w w' := by
  have HL := Lib.hid h.len
  have hP := (Bk.new w 25 #[.int .i64 r, .int .i64 q, .slice A n c]).alloc (.cells #[.int .i64 0, .int .i64 0, .int .i64 0, .int .i64 0, .bool false, .bool false] 27)
  have hR := Bk.new (w.alloc (.cells #[.int .i64 r, .int .i64 q, .slice A n c] 25)) 27 #[.int .i64 0, .int .i64 0, .int .i64 0, .int .i64 0, .bool false, .bool false]
  simp only [World.size_alloc] at hR
  have hn8 : (n : Int) ≤ 8 := by have := hrg.2.2.2.2.2; rw [HL.out] at this; have := hrg.2.1; omega
  have hr1 : 1 ≤ r := by have := hrg.1; omega
  have hr8 : r ≤ 8 := by have := hrg.2.1; omega
  have hq : q ≤ 999999 := by have := hrg.2.2.2.1; omega
  have hmn : n = min r q := by have := hrg.2.2.2.2.2; rw [HL.out] at this; omega
  have hnr : n ≤ r := by omega
  have hnq : n ≤ q := by omega
  have HV := Lib.hid (fun (w' : World) (hw : Below w.heap.size w w') => by
    have := irv_any r q A n c xs w' ((h.below hw).more hw.size) (by omega)
    rw [rgB_true.2 hrg] at this
    exact this)
  clear hrg hmn
  go_enter Try.func12, Try.ntmps12
  go_wp2_with fail
  refine (HV.out _ (by repeat (first | exact Below.refl _ _ | assumption | refine Below.setCell ?_ (by first | omega | (simp; done) | (simp; omega)) _ | refine Below.alloc ?_ (by first | omega | (simp; done) | (simp; omega)) _ | refine Below.drew ?_ | refine Below.drewN' ?_ _ | refine Below.trans ?_ (Below.mono (by assumption) (by first | omega | (simp; done) | (simp; omega)))))).mono ?_
  rintro y w1 ⟨rfl, hb1⟩
  replace hP := hP.below hb1 (by first | omega | exact hP.lt | (simp; done) | (simp; omega))
  (try clear hP_c0); (try clear hP_f0)
  (try clear hP_c1); (try clear hP_f1)
  (try clear hP_c2); (try clear hP_f2)
  (try clear hP_lt)
  have hP_lt := hP.lt; (try simp only [World.size_alloc] at hP_lt)
  have hP_c0 := hP.cell 0; have hP_f0 := hP.frozen 0
  have hP_c1 := hP.cell 1; have hP_f1 := hP.frozen 1
  have hP_c2 := hP.cell 2; have hP_f2 := hP.frozen 2
  simp only [List.getElem?_toArray, List.getElem?_cons_zero, List.getElem?_cons_succ] at hP_c0 hP_c1 hP_c2
  replace hR := hR.below hb1 (by first | omega | exact hR.lt | (simp; done) | (simp; omega))
  (try clear hR_c0); (try clear hR_f0)
  (try clear hR_c1); (try clear hR_f1)
  (try clear hR_c2); (try clear hR_f2)
  (try clear hR_c3); (try clear hR_f3)
  (try clear hR_c4); (try clear hR_f4)
  (try clear hR_c5); (try clear hR_f5)
  (try clear hR_lt)
  have hR_lt := hR.lt; (try simp only [World.size_alloc] at hR_lt)
  have hR_c0 := hR.cell 0; have hR_f0 := hR.frozen 0
  have hR_c1 := hR.cell 1; have hR_f1 := hR.frozen 1
  have hR_c2 := hR.cell 2; have hR_f2 := hR.frozen 2
  have hR_c3 := hR.cell 3; have hR_f3 := hR.frozen 3
  have hR_c4 := hR.cell 4; have hR_f4 := hR.frozen 4
  have hR_c5 := hR.cell 5; have hR_f5 := hR.frozen 5
  simp only [List.getElem?_toArray, List.getElem?_cons_zero, List.getElem?_cons_succ] at hR_c0 hR_c1 hR_c2 hR_c3 hR_c4 hR_c5
  have hB1 : Below w.heap.size w w1 := (by repeat (first | exact Below.refl _ _ | assumption | refine Below.setCell ?_ (by first | omega | (simp; done) | (simp; omega)) _ | refine Below.alloc ?_ (by first | omega | (simp; done) | (simp; omega)) _ | refine Below.drew ?_ | refine Below.drewN' ?_ _ | refine Below.trans ?_ (Below.mono (by assumption) (by first | omega | (simp; done) | (simp; omega)))))
  have hPl : w.heap.size < w1.heap.size := hP.lt
  have hRl : w.heap.size + 1 < w1.heap.size := hR.lt
  clear hb1
  go_wp2_with fail
  refine (bnew_any r q A n c xs w1 ((h.below hB1).more hB1.size) hr1 hr8 hnr hnq hq).mono ?_
  rintro y w7 ⟨rfl, hb7⟩
  replace hP := hP.below hb7 (by first | omega | exact hP.lt | (simp; done) | (simp; omega))
  (try clear hP_c0); (try clear hP_f0)
  (try clear hP_c1); (try clear hP_f1)
  (try clear hP_c2); (try clear hP_f2)
  (try clear hP_lt)
  have hP_lt := hP.lt; (try simp only [World.size_alloc] at hP_lt)
  have hP_c0 := hP.cell 0; have hP_f0 := hP.frozen 0
  have hP_c1 := hP.cell 1; have hP_f1 := hP.frozen 1
  have hP_c2 := hP.cell 2; have hP_f2 := hP.frozen 2
  simp only [List.getElem?_toArray, List.getElem?_cons_zero, List.getElem?_cons_succ] at hP_c0 hP_c1 hP_c2
  replace hR := hR.below hb7 (by first | omega | exact hR.lt | (simp; done) | (simp; omega))
  (try clear hR_c0); (try clear hR_f0)
  (try clear hR_c1); (try clear hR_f1)
  (try clear hR_c2); (try clear hR_f2)
  (try clear hR_c3); (try clear hR_f3)
  (try clear hR_c4); (try clear hR_f4)
  (try clear hR_c5); (try clear hR_f5)
  (try clear hR_lt)
  have hR_lt := hR.lt; (try simp only [World.size_alloc] at hR_lt)
  have hR_c0 := hR.cell 0; have hR_f0 := hR.frozen 0
  have hR_c1 := hR.cell 1; have hR_f1 := hR.frozen 1
  have hR_c2 := hR.cell 2; have hR_f2 := hR.frozen 2
  have hR_c3 := hR.cell 3; have hR_f3 := hR.frozen 3
  have hR_c4 := hR.cell 4; have hR_f4 := hR.frozen 4
  have hR_c5 := hR.cell 5; have hR_f5 := hR.frozen 5
  simp only [List.getElem?_toArray, List.getElem?_cons_zero, List.getElem?_cons_succ] at hR_c0 hR_c1 hR_c2 hR_c3 hR_c4 hR_c5
  have hB7 : Below w.heap.size w w7 := hB1.trans (hb7.mono hB1.size)
  have hRl7 : w.heap.size + 1 < w7.heap.size := hR.lt
  clear hb7 h
  have HI := Lib.hid (show (Try.prog.info? 56).map (·.size) = some (bufC (psOf xs r (q - n) n) (r : Int) ((q - n : Nat) : Int) q).toArray.size by rw [List.size_toArray, bufC_len (psOf_len xs r (q - n) n)]; exact buf_size)
  have hkr : j - (q - n) < n := by omega
  have hat := ps_at xs r (q - n) hr1 hr8 n hnr (j - (q - n)) hkr
  rw [hx, show q - n + (j - (q - n)) = j by omega] at hat
  replace hat : (psOf xs r (q - n) n)[j % r]? = some x := hat
  obtain ⟨k, hk⟩ : ∃ k, j % r = k := ⟨_, rfl⟩
  have hk8 : k < r := by rw [← hk]; exact Nat.mod_lt _ (by omega)
  have hrem : Int.tmod (j : Int) (r : Int) = (k : Int) := by rw [← hk]; exact (Int.ofNat_tmod _ _).symm
  rw [hk] at hat
  have hk9 : k < 8 := by omega
  have f0 : (0 : Int) ≤ k := by omega
  have f1 : (k : Int) < 8 := by omega
  have r0 : ((r : Int) == 0) = false := by simp; omega
  have r1 : (r = 0) = False := by simp; omega
  have e1 : decide (j < q - n) = false := by simp; omega
  have e2 : decide ((j : Int) < ((q - n : Nat) : Int)) = false := by simp; omega
  have e3 : decide ((q : Int) ≤ (j : Int)) = false := by simp; omega
  have e4 : decide (q ≤ j) = false := by simp; omega
  have HAT := Lib.hid hat
  have hx0 : 0 ≤ k := by omega
  clear hat hx hk
  have HRB := Lib.hid hR
  clear hR
  go_wp2_with (first
    | (refine wpList_store_bk rfl 56 _ _ rfl w7.heap.size 56 _ (bufC (psOf xs r (q - n) n) r ((q - n : Nat) : Int) q) (by rfl) (by rfl) (Bk.new w7 56 _) (by rw [bufC_len (psOf_len xs r (q - n) n)]; rfl) HI.out one_buf ?_; intro w8 hb8 ho8; have hR8 := (HRB.out.alloc (.cells #[.int .i64 0, .int .i64 0, .int .i64 0, .int .i64 0, .bool false, .bool false, .int .i64 0, .int .i64 0, .int .i64 0, .int .i64 0, .bool false, .bool false, .int .i64 0, .int .i64 0, .int .i64 0, .int .i64 0, .bool false, .bool false, .int .i64 0, .int .i64 0, .int .i64 0, .int .i64 0, .bool false, .bool false, .int .i64 0, .int .i64 0, .int .i64 0, .int .i64 0, .bool false, .bool false, .int .i64 0, .int .i64 0, .int .i64 0, .int .i64 0, .bool false, .bool false, .int .i64 0, .int .i64 0, .int .i64 0, .int .i64 0, .bool false, .bool false, .int .i64 0, .int .i64 0, .int .i64 0, .int .i64 0, .bool false, .bool false, .int .i64 0, .int .i64 0, .int .i64 0] 56)).only ho8 (by omega); have hB8 := (hB7.alloc hB7.size (.cells #[.int .i64 0, .int .i64 0, .int .i64 0, .int .i64 0, .bool false, .bool false, .int .i64 0, .int .i64 0, .int .i64 0, .int .i64 0, .bool false, .bool false, .int .i64 0, .int .i64 0, .int .i64 0, .int .i64 0, .bool false, .bool false, .int .i64 0, .int .i64 0, .int .i64 0, .int .i64 0, .bool false, .bool false, .int .i64 0, .int .i64 0, .int .i64 0, .int .i64 0, .bool false, .bool false, .int .i64 0, .int .i64 0, .int .i64 0, .int .i64 0, .bool false, .bool false, .int .i64 0, .int .i64 0, .int .i64 0, .int .i64 0, .bool false, .bool false, .int .i64 0, .int .i64 0, .int .i64 0, .int .i64 0, .bool false, .bool false, .int .i64 0, .int .i64 0, .int .i64 0] 56)).trans (ho8.below (B := w.heap.size) hB7.size (by simp; have := hB7.size; omega)); have hb8' := RBk.mk8 hb8 (psOf_len xs r (q - n) n); obtain ⟨b48, b49, b50⟩ := hb8'.cells; obtain ⟨y0, y1, y2, y3, y4, y5⟩ := hb8'.at_ HAT.out; have r8_0 := hR8.cell 0; have r8_1 := hR8.cell 1; have r8_2 := hR8.cell 2; have r8_3 := hR8.cell 3; have r8_4 := hR8.cell 4; have r8_5 := hR8.cell 5; have f8_0 := hR8.frozen 0; have f8_1 := hR8.frozen 1; have f8_2 := hR8.frozen 2; have f8_3 := hR8.frozen 3; have f8_4 := hR8.frozen 4; have f8_5 := hR8.frozen 5; simp only [List.getElem?_toArray, List.getElem?_cons_zero, List.getElem?_cons_succ] at r8_0 r8_1 r8_2 r8_3 r8_4 r8_5; clear hb8 ho8 hb8' hR8))
  go_wp2
  have hR8l : w.heap.size + 1 < w8.heap.size := World.block_lt_of_cell? _ _ r8_0
  refine ⟨rfl, ?_⟩
  apply Exists.intro
  apply And.intro
  · simp [results, Try.results12, go_sem, r8_0, r8_1, r8_2, r8_3, r8_4, r8_5, hR8l]; exact rfl
  · exact ⟨rfl, (by repeat (first | exact Below.refl _ _ | assumption | refine Below.setCell ?_ (by first | omega | (simp; done) | (simp; omega)) _ | refine Below.alloc ?_ (by first | omega | (simp; done) | (simp; omega)) _ | refine Below.drew ?_ | refine Below.drewN' ?_ _ | refine Below.trans ?_ (Below.mono (by assumption) (by first | omega | (simp; done) | (simp; omega)))))⟩
end Go.Proofs.Ytjhppghkhfacaaa
