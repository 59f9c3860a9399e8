/-
  RingPut of the program.
  Conditions: as each theorem states them.
-/
import Derived.Test.YthbkmnladaneaaaGreatDoorSrL
namespace Go.Proofs.YthbkmnladaneaaaGreatDoor
open Go.RowKit
set_option linter.unusedVariables false
set_option linter.unusedSimpArgs false
set_option maxRecDepth 100000

/-- A ring whose packets lie in a row of the call's own. -/
def RgO (B : Nat) (ro co : Int) (xs : List Pk) (v : Value) (w : World) : Prop := ∃ A c, v = .agg #[.int .i64 ro, .int .i64 co, .slice A xs.length c] ∧ w.ownsRow B 81 6 (.slice A xs.length c) xs.length (xs.flatMap Pk.c)
def RgGoodO (ro co : Int) (xs : List Pk) (w : World) (e : Ending) (w' : World) : Prop := ∃ v, e = .returned (.tuple #[v, .bool true]) ∧ RgO w.heap.size ro co xs v w' ∧ Below w.heap.size w w'
theorem RgO.but {B : Nat} {ro co : Int} {xs : List Pk} {v : Value} {w w' : World} {X : Nat → Prop} (h : RgO B ro co xs v w) (hb : But X w w') (hX : ∀ k, B ≤ k → ¬ X k) : RgO B ro co xs v w' := by
  obtain ⟨A, c, e, h1⟩ := h
  exact ⟨A, c, e, own_but h1 hb fun k hk => hX k (h1.lt k hk).1⟩
theorem RgO.le {B B' : Nat} {ro co : Int} {xs : List Pk} {v : Value} {w : World} (h : RgO B ro co xs v w) (hb : B' ≤ B) : RgO B' ro co xs v w := by
  obtain ⟨A, c, e, h1⟩ := h
  exact ⟨A, c, e, own_more h1 hb⟩
theorem RgO.m {B : Nat} {ro co : Int} {xs : List Pk} {v : Value} {w : World} (h : RgO B ro co xs v w) : RgM B ro co xs v w := by
  obtain ⟨A, c, e, h1⟩ := h
  obtain ⟨A', c', e', hc, hm, hs⟩ := own_shape h1
  injection e' with e1 e2 e3
  subst e1 e3
  refine ⟨A, c, e, hc, hm, hs, fun b o s he => ?_⟩
  subst he
  exact (h1.lt b rfl).1
theorem RBk.mk8 {T : TypeId} {w : World} {g : Nat} {ps : List Pk} {ro ol co : Int} (h : Bk w g T (bufC ps ro ol co).toArray) (hl : ps.length = 8) : RBk T w g ps ro ol co := ⟨hl, h⟩

set_option maxHeartbeats 8000000 in
theorem irp_no (ro co : Int) (A : Option Addr) (n c : Nat) (xs : List Pk) (p : Pk) (w : World) (h : Pks w w.heap.size A n xs) (hn : n ≤ 1099511627776) (hno : ¬ rgOk ro co xs) :
    Calls Tryz.prog 88 #[.agg #[.int .i64 ro, .int .i64 co, .slice A n c], .agg #[.int .i64 p.wi, .int .i64 p.ti, .int .i64 p.la, .int .i64 p.si, .bool p.ky, .bool p.en]] w (RgBad w) := by
  have HL := Lib.hid h.len
  have hP := ((Bk.new w 34 #[.int .i64 ro, .int .i64 co, .slice A n c]).alloc (.cells #[.int .i64 p.wi, .int .i64 p.ti, .int .i64 p.la, .int .i64 p.si, .bool p.ky, .bool p.en] 81)).alloc (.cells #[.int .i64 0, .int .i64 0, .slice none 0 0] 34)
  have hX := (Bk.new (w.alloc (.cells #[.int .i64 ro, .int .i64 co, .slice A n c] 34)) 81 #[.int .i64 p.wi, .int .i64 p.ti, .int .i64 p.la, .int .i64 p.si, .bool p.ky, .bool p.en]).alloc (.cells #[.int .i64 0, .int .i64 0, .slice none 0 0] 34)
  have hR := Bk.new ((w.alloc (.cells #[.int .i64 ro, .int .i64 co, .slice A n c] 34)).alloc (.cells #[.int .i64 p.wi, .int .i64 p.ti, .int .i64 p.la, .int .i64 p.si, .bool p.ky, .bool p.en] 81)) 34 #[.int .i64 0, .int .i64 0, .slice none 0 0]
  simp only [World.size_alloc] at hX hR
  have HV := Lib.hid (fun (w' : World) (hw : Below w.heap.size w w') => by
    have := irv_any ro co A n c xs w' ((h.below hw).more hw.size) hn
    rw [rgB_false.2 hno] at this
    exact this)
  clear h
  go_enter Tryz.func88, Tryz.ntmps88
  go_wp2_with fail
  refine (HV.out _ (by repeat (first | exact Below.refl _ _ | assumption | refine Below.setCell ?_ (by first | omega | (simp; done) | (simp; omega)) _ | refine Below.alloc ?_ (by first | omega | (simp; done) | (simp; omega)) _ | refine Below.drew ?_ | refine Below.drewN' ?_ _ | refine Below.trans ?_ (Below.mono (by assumption) (by first | omega | (simp; done) | (simp; omega)))))).mono ?_
  rintro y w1 ⟨rfl, hb1⟩
  replace hR := hR.below hb1 (by first | omega | exact hR.lt | (simp; done) | (simp; omega))
  (try clear hR_c0); (try clear hR_f0)
  (try clear hR_c1); (try clear hR_f1)
  (try clear hR_c2); (try clear hR_f2)
  (try clear hR_lt)
  have hR_lt := hR.lt; (try simp only [World.size_alloc] at hR_lt)
  have hR_c0 := hR.cell 0; have hR_f0 := hR.frozen 0
  have hR_c1 := hR.cell 1; have hR_f1 := hR.frozen 1
  have hR_c2 := hR.cell 2; have hR_f2 := hR.frozen 2
  simp only [List.getElem?_toArray, List.getElem?_cons_zero, List.getElem?_cons_succ] at hR_c0 hR_c1 hR_c2
  have hB : Below w.heap.size w w1 := (by repeat (first | exact Below.refl _ _ | assumption | refine Below.setCell ?_ (by first | omega | (simp; done) | (simp; omega)) _ | refine Below.alloc ?_ (by first | omega | (simp; done) | (simp; omega)) _ | refine Below.drew ?_ | refine Below.drewN' ?_ _ | refine Below.trans ?_ (Below.mono (by assumption) (by first | omega | (simp; done) | (simp; omega)))))
  clear hb1
  go_wp2
  refine ⟨rfl, ?_⟩
  apply Exists.intro
  apply And.intro
  · simp [results, Tryz.results88, go_sem, hR_c0, hR_c1, hR_c2, hR_lt]; exact rfl
  · exact ⟨rfl, (by repeat (first | exact Below.refl _ _ | assumption | refine Below.setCell ?_ (by first | omega | (simp; done) | (simp; omega)) _ | refine Below.alloc ?_ (by first | omega | (simp; done) | (simp; omega)) _ | refine Below.drew ?_ | refine Below.drewN' ?_ _ | refine Below.trans ?_ (Below.mono (by assumption) (by first | omega | (simp; done) | (simp; omega)))))⟩

set_option maxHeartbeats 8000000 in
theorem irpO_any (ro co : Int) (A : Option Addr) (n c : Nat) (xs : List Pk) (p : Pk) (w : World) (h : Pks w w.heap.size A n xs) (hnc : n ≤ c) (hc : c ≤ maxLen) (hrg : rgOk ro co xs) :
    Calls Tryz.prog 88 #[.agg #[.int .i64 ro, .int .i64 co, .slice A n c], .agg #[.int .i64 p.wi, .int .i64 p.ti, .int .i64 p.la, .int .i64 p.si, .bool p.ky, .bool p.en]] w fun e w' => (RpIn ro co xs p → RgGoodO ro (co + 1) (putL ro xs p) w e w') ∧ (¬ RpIn ro co xs p → RgBad w e w') := by
  have HL := Lib.hid h.len
  have hP := ((Bk.new w 34 #[.int .i64 ro, .int .i64 co, .slice A n c]).alloc (.cells #[.int .i64 p.wi, .int .i64 p.ti, .int .i64 p.la, .int .i64 p.si, .bool p.ky, .bool p.en] 81)).alloc (.cells #[.int .i64 0, .int .i64 0, .slice none 0 0] 34)
  have hX := (Bk.new (w.alloc (.cells #[.int .i64 ro, .int .i64 co, .slice A n c] 34)) 81 #[.int .i64 p.wi, .int .i64 p.ti, .int .i64 p.la, .int .i64 p.si, .bool p.ky, .bool p.en]).alloc (.cells #[.int .i64 0, .int .i64 0, .slice none 0 0] 34)
  have hR := Bk.new ((w.alloc (.cells #[.int .i64 ro, .int .i64 co, .slice A n c] 34)).alloc (.cells #[.int .i64 p.wi, .int .i64 p.ti, .int .i64 p.la, .int .i64 p.si, .bool p.ky, .bool p.en] 81)) 34 #[.int .i64 0, .int .i64 0, .slice none 0 0]
  simp only [World.size_alloc] at hX hR
  have hn8 : (n : Int) ≤ 8 := by have := hrg.2.2.2.2.2; rw [HL.out] at this; have := hrg.2.1; omega
  have hn9 : n ≤ 8 := by omega
  have hn40 : n ≤ 1099511627776 := by omega
  obtain ⟨r, rfl⟩ := Int.eq_ofNat_of_zero_le (show 0 ≤ ro by have := hrg.1; omega)
  obtain ⟨q, rfl⟩ := Int.eq_ofNat_of_zero_le (show 0 ≤ co by have := hrg.2.2.1; omega)
  have hr1 : 1 ≤ r := by have := hrg.1; omega
  have hr8 : r ≤ 8 := by have := hrg.2.1; omega
  have hq : q ≤ 999999 := by have := hrg.2.2.2.1; omega
  have hmn : n = min r q := by have := hrg.2.2.2.2.2; rw [HL.out] at this; omega
  have hnr : n ≤ r := by omega
  have hnq : n ≤ q := by omega
  have HG := Lib.hid hrg
  have HV := Lib.hid (fun (w' : World) (hw : Below w.heap.size w w') => by
    have := irv_any r q A n c xs w' ((h.below hw).more hw.size) hn40
    rw [rgB_true.2 hrg] at this
    exact this)
  have hpk := fun w' => ipk_any p w'
  obtain ⟨i0, hi0, hz0, hz1, hz2⟩ := info_parts pki_info
  clear hrg hmn
  by_cases hp : pkOk p
  · rw [show pkB p = true from decide_eq_true hp] at hpk
    have HPK := Lib.hid hpk
    clear hpk
    go_enter Tryz.func88, Tryz.ntmps88
    go_wp2_with fail
    refine (HV.out _ (by repeat (first | exact Below.refl _ _ | assumption | refine Below.setCell ?_ (by first | omega | (simp; done) | (simp; omega)) _ | refine Below.alloc ?_ (by first | omega | (simp; done) | (simp; omega)) _ | refine Below.drew ?_ | refine Below.drewN' ?_ _ | refine Below.trans ?_ (Below.mono (by assumption) (by first | omega | (simp; done) | (simp; omega)))))).mono ?_
    rintro y w1 ⟨rfl, hb1⟩
    replace hP := hP.below hb1 (by first | omega | exact hP.lt | (simp; done) | (simp; omega))
    (try clear hP_c0); (try clear hP_f0)
    (try clear hP_c1); (try clear hP_f1)
    (try clear hP_c2); (try clear hP_f2)
    (try clear hP_lt)
    have hP_lt := hP.lt; (try simp only [World.size_alloc] at hP_lt)
    have hP_c0 := hP.cell 0; have hP_f0 := hP.frozen 0
    have hP_c1 := hP.cell 1; have hP_f1 := hP.frozen 1
    have hP_c2 := hP.cell 2; have hP_f2 := hP.frozen 2
    simp only [List.getElem?_toArray, List.getElem?_cons_zero, List.getElem?_cons_succ] at hP_c0 hP_c1 hP_c2
    replace hX := hX.below hb1 (by first | omega | exact hX.lt | (simp; done) | (simp; omega))
    (try clear hX_c0); (try clear hX_f0)
    (try clear hX_c1); (try clear hX_f1)
    (try clear hX_c2); (try clear hX_f2)
    (try clear hX_c3); (try clear hX_f3)
    (try clear hX_c4); (try clear hX_f4)
    (try clear hX_c5); (try clear hX_f5)
    (try clear hX_lt)
    have hX_lt := hX.lt; (try simp only [World.size_alloc] at hX_lt)
    have hX_c0 := hX.cell 0; have hX_f0 := hX.frozen 0
    have hX_c1 := hX.cell 1; have hX_f1 := hX.frozen 1
    have hX_c2 := hX.cell 2; have hX_f2 := hX.frozen 2
    have hX_c3 := hX.cell 3; have hX_f3 := hX.frozen 3
    have hX_c4 := hX.cell 4; have hX_f4 := hX.frozen 4
    have hX_c5 := hX.cell 5; have hX_f5 := hX.frozen 5
    simp only [List.getElem?_toArray, List.getElem?_cons_zero, List.getElem?_cons_succ] at hX_c0 hX_c1 hX_c2 hX_c3 hX_c4 hX_c5
    replace hR := hR.below hb1 (by first | omega | exact hR.lt | (simp; done) | (simp; omega))
    (try clear hR_c0); (try clear hR_f0)
    (try clear hR_c1); (try clear hR_f1)
    (try clear hR_c2); (try clear hR_f2)
    (try clear hR_lt)
    have hR_lt := hR.lt; (try simp only [World.size_alloc] at hR_lt)
    have hR_c0 := hR.cell 0; have hR_f0 := hR.frozen 0
    have hR_c1 := hR.cell 1; have hR_f1 := hR.frozen 1
    have hR_c2 := hR.cell 2; have hR_f2 := hR.frozen 2
    simp only [List.getElem?_toArray, List.getElem?_cons_zero, List.getElem?_cons_succ] at hR_c0 hR_c1 hR_c2
    have hB1 : Below w.heap.size w w1 := (by repeat (first | exact Below.refl _ _ | assumption | refine Below.setCell ?_ (by first | omega | (simp; done) | (simp; omega)) _ | refine Below.alloc ?_ (by first | omega | (simp; done) | (simp; omega)) _ | refine Below.drew ?_ | refine Below.drewN' ?_ _ | refine Below.trans ?_ (Below.mono (by assumption) (by first | omega | (simp; done) | (simp; omega)))))
    clear hb1
    go_wp2_with fail
    refine (HPK.out _).mono ?_
    rintro y w2 ⟨rfl, hb2⟩
    replace hP := hP.below hb2 (by first | omega | exact hP.lt | (simp; done) | (simp; omega))
    (try clear hP_c0); (try clear hP_f0)
    (try clear hP_c1); (try clear hP_f1)
    (try clear hP_c2); (try clear hP_f2)
    (try clear hP_lt)
    have hP_lt := hP.lt; (try simp only [World.size_alloc] at hP_lt)
    have hP_c0 := hP.cell 0; have hP_f0 := hP.frozen 0
    have hP_c1 := hP.cell 1; have hP_f1 := hP.frozen 1
    have hP_c2 := hP.cell 2; have hP_f2 := hP.frozen 2
    simp only [List.getElem?_toArray, List.getElem?_cons_zero, List.getElem?_cons_succ] at hP_c0 hP_c1 hP_c2
    replace hX := hX.below hb2 (by first | omega | exact hX.lt | (simp; done) | (simp; omega))
    (try clear hX_c0); (try clear hX_f0)
    (try clear hX_c1); (try clear hX_f1)
    (try clear hX_c2); (try clear hX_f2)
    (try clear hX_c3); (try clear hX_f3)
    (try clear hX_c4); (try clear hX_f4)
    (try clear hX_c5); (try clear hX_f5)
    (try clear hX_lt)
    have hX_lt := hX.lt; (try simp only [World.size_alloc] at hX_lt)
    have hX_c0 := hX.cell 0; have hX_f0 := hX.frozen 0
    have hX_c1 := hX.cell 1; have hX_f1 := hX.frozen 1
    have hX_c2 := hX.cell 2; have hX_f2 := hX.frozen 2
    have hX_c3 := hX.cell 3; have hX_f3 := hX.frozen 3
    have hX_c4 := hX.cell 4; have hX_f4 := hX.frozen 4
    have hX_c5 := hX.cell 5; have hX_f5 := hX.frozen 5
    simp only [List.getElem?_toArray, List.getElem?_cons_zero, List.getElem?_cons_succ] at hX_c0 hX_c1 hX_c2 hX_c3 hX_c4 hX_c5
    replace hR := hR.below hb2 (by first | omega | exact hR.lt | (simp; done) | (simp; omega))
    (try clear hR_c0); (try clear hR_f0)
    (try clear hR_c1); (try clear hR_f1)
    (try clear hR_c2); (try clear hR_f2)
    (try clear hR_lt)
    have hR_lt := hR.lt; (try simp only [World.size_alloc] at hR_lt)
    have hR_c0 := hR.cell 0; have hR_f0 := hR.frozen 0
    have hR_c1 := hR.cell 1; have hR_f1 := hR.frozen 1
    have hR_c2 := hR.cell 2; have hR_f2 := hR.frozen 2
    simp only [List.getElem?_toArray, List.getElem?_cons_zero, List.getElem?_cons_succ] at hR_c0 hR_c1 hR_c2
    have hB2 : Below w.heap.size w w2 := hB1.trans (hb2.mono hB1.size)
    clear hb2
    have hPl : w.heap.size < w2.heap.size := hP.lt
    have hXl : w.heap.size + 1 < w2.heap.size := hX.lt
    have hRl : w.heap.size + 1 + 1 < w2.heap.size := hR.lt
    go_wp2_with (first
      | (at_make; refine wpList_make_own _ rfl _ _ 32 rfl w2.heap.size 81 i0 (.agg #[.int .i64 0, .int .i64 0, .int .i64 0, .int .i64 0, .bool false, .bool false]) 6 Tryz.underlying32 hi0 hz0 hz1 .i64 .i64 _ (n + 1) rfl rfl (by omega) (by rw [hz2]; omega) (by unfold maxLen; omega) (Nat.le_refl _) ?_; intro w3 hown3 hgrow3; have hP3 := hP.grown hgrow3 (by simp); have hX3 := hX.grown hgrow3 (by simp); have hR3 := hR.grown hgrow3 (by simp); have hB3 := hB2.grown hgrow3 hB2.size (by simp); have hs3 := hgrow3.size; have HO3 := Lib.hid hown3; clear hown3; have p32 := hP3.cell 2; simp only [List.getElem?_toArray, List.getElem?_cons_zero, List.getElem?_cons_succ] at p32)
      | (at_builtin; refine wpList_app _ rfl _ _ 32 rfl w2.heap.size 81 i0 (.agg #[.int .i64 0, .int .i64 0, .int .i64 0, .int .i64 0, .bool false, .bool false]) 6 40 Tryz.underlying32 hi0 hz0 hz1 hz2 rfl (by omega) _ 0 _ rfl HO3.out w.heap.size A n c _ rfl (Sl.below h hB3) (one_pks _) (by unfold maxLen; omega) (by omega) hs3 ?_; intro v4 w4 hown4 hgrow4 hat4; have hP4 := hP3.grown_own hgrow4 HO3.out hPl; have hX4 := hX3.grown_own hgrow4 HO3.out hXl; have hR4 := hR3.grown_own hgrow4 HO3.out hRl; have hB4 := Below.grown_own hB3 hgrow4 HO3.out hB2.size hB3.size; simp only [Nat.zero_add, List.nil_append] at hown4; have HO4 := Lib.hid hown4; have hs4 := hgrow4.size; clear hown4 hat4; have HX4 := Lib.hid hX4; have x40 := hX4.cell 0; have x41 := hX4.cell 1; have x42 := hX4.cell 2; have x43 := hX4.cell 3; have x44 := hX4.cell 4; have x45 := hX4.cell 5; simp only [List.getElem?_toArray, List.getElem?_cons_zero, List.getElem?_cons_succ] at x40 x41 x42 x43 x44 x45)
      | (at_builtin; refine wpList_app _ rfl _ _ 32 rfl w2.heap.size 81 i0 (.agg #[.int .i64 0, .int .i64 0, .int .i64 0, .int .i64 0, .bool false, .bool false]) 6 40 Tryz.underlying32 hi0 hz0 hz1 hz2 rfl (by omega) v4 n _ rfl (HO4.out.alloc (.cells #[.int .i64 p.wi, .int .i64 p.ti, .int .i64 p.la, .int .i64 p.si, .bool p.ky, .bool p.en] 81)) (w4.heap.size + 1) (some ⟨w4.heap.size, 0, none⟩) 1 1 p.c rfl ⟨rfl, fun _ => ⟨w4.heap.size, 0, rfl, by omega, fun j u hu => by rw [Nat.zero_add, (Bk.new w4 81 #[.int .i64 p.wi, .int .i64 p.ti, .int .i64 p.la, .int .i64 p.si, .bool p.ky, .bool p.en]).cell j]; simpa [Pk.c] using hu⟩⟩ (one_pk p) (by unfold maxLen; omega) (by omega) (by simp; omega) ?_; intro v5 w5 hown5 hgrow5 hat5; have hP5 := (hP4.alloc (.cells #[.int .i64 p.wi, .int .i64 p.ti, .int .i64 p.la, .int .i64 p.si, .bool p.ky, .bool p.en] 81)).grown_own hgrow5 (HO4.out.alloc (.cells #[.int .i64 p.wi, .int .i64 p.ti, .int .i64 p.la, .int .i64 p.si, .bool p.ky, .bool p.en] 81)) hPl; have hX5 := (hX4.alloc (.cells #[.int .i64 p.wi, .int .i64 p.ti, .int .i64 p.la, .int .i64 p.si, .bool p.ky, .bool p.en] 81)).grown_own hgrow5 (HO4.out.alloc (.cells #[.int .i64 p.wi, .int .i64 p.ti, .int .i64 p.la, .int .i64 p.si, .bool p.ky, .bool p.en] 81)) hXl; have hR5 := (hR4.alloc (.cells #[.int .i64 p.wi, .int .i64 p.ti, .int .i64 p.la, .int .i64 p.si, .bool p.ky, .bool p.en] 81)).grown_own hgrow5 (HO4.out.alloc (.cells #[.int .i64 p.wi, .int .i64 p.ti, .int .i64 p.la, .int .i64 p.si, .bool p.ky, .bool p.en] 81)) hRl; have hB5 := Below.grown_own (hB4.alloc hB4.size (.cells #[.int .i64 p.wi, .int .i64 p.ti, .int .i64 p.la, .int .i64 p.si, .bool p.ky, .bool p.en] 81)) hgrow5 (HO4.out.alloc (.cells #[.int .i64 p.wi, .int .i64 p.ti, .int .i64 p.la, .int .i64 p.si, .bool p.ky, .bool p.en] 81)) hB2.size (by simp; omega); obtain ⟨A5, c5, rfl, -, -, -⟩ := own_shape hown5; have HO5 := Lib.hid hown5; clear hown5 hat5))
    have HQV := Lib.hid (ips_any A5 (n + 1) c5 (xs ++ [p]) w5 (by
      have := Sl.of_own HO5.out
      unfold Pks
      rw [List.flatMap_append]
      simpa using this) (by omega))
    clear x40 x41 x42 x43 x44 x45 p32 hP hX hR hP3 hX3 hR3 hP4 hX4 hR4 HX4 HO3 HO4 hgrow3 hgrow4 hgrow5
    by_cases q1 : psOk (xs ++ [p])
    · have HQV1 := Lib.hid (by have := HQV.out; rw [psB_true.2 q1] at this; exact this)
      refine HQV1.out.mono ?_
      rintro y w6 ⟨rfl, hb6⟩
      replace hP5 := hP5.below hb6 (by first | omega | exact hP5.lt | (simp; done) | (simp; omega))
      (try clear hP5_c0); (try clear hP5_f0)
      (try clear hP5_c1); (try clear hP5_f1)
      (try clear hP5_c2); (try clear hP5_f2)
      (try clear hP5_lt)
      have hP5_lt := hP5.lt; (try simp only [World.size_alloc] at hP5_lt)
      have hP5_c0 := hP5.cell 0; have hP5_f0 := hP5.frozen 0
      have hP5_c1 := hP5.cell 1; have hP5_f1 := hP5.frozen 1
      have hP5_c2 := hP5.cell 2; have hP5_f2 := hP5.frozen 2
      simp only [List.getElem?_toArray, List.getElem?_cons_zero, List.getElem?_cons_succ] at hP5_c0 hP5_c1 hP5_c2
      replace hX5 := hX5.below hb6 (by first | omega | exact hX5.lt | (simp; done) | (simp; omega))
      (try clear hX5_c0); (try clear hX5_f0)
      (try clear hX5_c1); (try clear hX5_f1)
      (try clear hX5_c2); (try clear hX5_f2)
      (try clear hX5_c3); (try clear hX5_f3)
      (try clear hX5_c4); (try clear hX5_f4)
      (try clear hX5_c5); (try clear hX5_f5)
      (try clear hX5_lt)
      have hX5_lt := hX5.lt; (try simp only [World.size_alloc] at hX5_lt)
      have hX5_c0 := hX5.cell 0; have hX5_f0 := hX5.frozen 0
      have hX5_c1 := hX5.cell 1; have hX5_f1 := hX5.frozen 1
      have hX5_c2 := hX5.cell 2; have hX5_f2 := hX5.frozen 2
      have hX5_c3 := hX5.cell 3; have hX5_f3 := hX5.frozen 3
      have hX5_c4 := hX5.cell 4; have hX5_f4 := hX5.frozen 4
      have hX5_c5 := hX5.cell 5; have hX5_f5 := hX5.frozen 5
      simp only [List.getElem?_toArray, List.getElem?_cons_zero, List.getElem?_cons_succ] at hX5_c0 hX5_c1 hX5_c2 hX5_c3 hX5_c4 hX5_c5
      replace hR5 := hR5.below hb6 (by first | omega | exact hR5.lt | (simp; done) | (simp; omega))
      (try clear hR5_c0); (try clear hR5_f0)
      (try clear hR5_c1); (try clear hR5_f1)
      (try clear hR5_c2); (try clear hR5_f2)
      (try clear hR5_lt)
      have hR5_lt := hR5.lt; (try simp only [World.size_alloc] at hR5_lt)
      have hR5_c0 := hR5.cell 0; have hR5_f0 := hR5.frozen 0
      have hR5_c1 := hR5.cell 1; have hR5_f1 := hR5.frozen 1
      have hR5_c2 := hR5.cell 2; have hR5_f2 := hR5.frozen 2
      simp only [List.getElem?_toArray, List.getElem?_cons_zero, List.getElem?_cons_succ] at hR5_c0 hR5_c1 hR5_c2
      have hB6 : Below w.heap.size w w6 := hB5.trans (hb6.mono hB5.size)
      clear hb6 HQV HQV1
      go_wp2_with fail
      refine (bnew_any r q A n c xs w6 ((h.below hB6).more hB6.size) hr1 hr8 hnr hnq hq).mono ?_
      rintro y w7 ⟨rfl, hb7⟩
      replace hP5 := hP5.below hb7 (by first | omega | exact hP5.lt | (simp; done) | (simp; omega))
      (try clear hP5_c0); (try clear hP5_f0)
      (try clear hP5_c1); (try clear hP5_f1)
      (try clear hP5_c2); (try clear hP5_f2)
      (try clear hP5_lt)
      have hP5_lt := hP5.lt; (try simp only [World.size_alloc] at hP5_lt)
      have hP5_c0 := hP5.cell 0; have hP5_f0 := hP5.frozen 0
      have hP5_c1 := hP5.cell 1; have hP5_f1 := hP5.frozen 1
      have hP5_c2 := hP5.cell 2; have hP5_f2 := hP5.frozen 2
      simp only [List.getElem?_toArray, List.getElem?_cons_zero, List.getElem?_cons_succ] at hP5_c0 hP5_c1 hP5_c2
      replace hX5 := hX5.below hb7 (by first | omega | exact hX5.lt | (simp; done) | (simp; omega))
      (try clear hX5_c0); (try clear hX5_f0)
      (try clear hX5_c1); (try clear hX5_f1)
      (try clear hX5_c2); (try clear hX5_f2)
      (try clear hX5_c3); (try clear hX5_f3)
      (try clear hX5_c4); (try clear hX5_f4)
      (try clear hX5_c5); (try clear hX5_f5)
      (try clear hX5_lt)
      have hX5_lt := hX5.lt; (try simp only [World.size_alloc] at hX5_lt)
      have hX5_c0 := hX5.cell 0; have hX5_f0 := hX5.frozen 0
      have hX5_c1 := hX5.cell 1; have hX5_f1 := hX5.frozen 1
      have hX5_c2 := hX5.cell 2; have hX5_f2 := hX5.frozen 2
      have hX5_c3 := hX5.cell 3; have hX5_f3 := hX5.frozen 3
      have hX5_c4 := hX5.cell 4; have hX5_f4 := hX5.frozen 4
      have hX5_c5 := hX5.cell 5; have hX5_f5 := hX5.frozen 5
      simp only [List.getElem?_toArray, List.getElem?_cons_zero, List.getElem?_cons_succ] at hX5_c0 hX5_c1 hX5_c2 hX5_c3 hX5_c4 hX5_c5
      replace hR5 := hR5.below hb7 (by first | omega | exact hR5.lt | (simp; done) | (simp; omega))
      (try clear hR5_c0); (try clear hR5_f0)
      (try clear hR5_c1); (try clear hR5_f1)
      (try clear hR5_c2); (try clear hR5_f2)
      (try clear hR5_lt)
      have hR5_lt := hR5.lt; (try simp only [World.size_alloc] at hR5_lt)
      have hR5_c0 := hR5.cell 0; have hR5_f0 := hR5.frozen 0
      have hR5_c1 := hR5.cell 1; have hR5_f1 := hR5.frozen 1
      have hR5_c2 := hR5.cell 2; have hR5_f2 := hR5.frozen 2
      simp only [List.getElem?_toArray, List.getElem?_cons_zero, List.getElem?_cons_succ] at hR5_c0 hR5_c1 hR5_c2
      have hB7 : Below w.heap.size w w7 := hB6.trans (hb7.mono hB6.size)
      have hXl7 : w.heap.size + 1 < w7.heap.size := hX5.lt
      have hRl7 : w.heap.size + 1 + 1 < w7.heap.size := hR5.lt
      clear hb7
      have HI := Lib.hid (show (Tryz.prog.info? 135).map (·.size) = some (bufC (psOf xs r (q - n) n) (r : Int) ((q - n : Nat) : Int) q).toArray.size by rw [List.size_toArray, bufC_len (psOf_len xs r (q - n) n)]; exact buf_size)
      obtain ⟨hol1, hol2⟩ := olN_le (r := r) (o := q - n) (c := q) (by omega) (by omega) hr1
      have HIT := Lib.hid (put_items (p := p) (o := q - n) (c := q) HL.out hr1 hr8 hnr (by omega))
      generalize hOL : olN r (q - n) q = ol at *
      go_wp2_with (first
        | (refine wpList_store_bk rfl 135 _ _ rfl w7.heap.size 135 _ (bufC (psOf xs r (q - n) n) r ((q - n : Nat) : Int) q) (by rfl) (by rfl) (Bk.new w7 135 _) (by rw [bufC_len (psOf_len xs r (q - n) n)]; rfl) HI.out one_buf ?_; intro w8 hb8 ho8; have hX8 := (hX5.alloc (.cells #[.int .i64 0, .int .i64 0, .int .i64 0, .int .i64 0, .bool false, .bool false, .int .i64 0, .int .i64 0, .int .i64 0, .int .i64 0, .bool false, .bool false, .int .i64 0, .int .i64 0, .int .i64 0, .int .i64 0, .bool false, .bool false, .int .i64 0, .int .i64 0, .int .i64 0, .int .i64 0, .bool false, .bool false, .int .i64 0, .int .i64 0, .int .i64 0, .int .i64 0, .bool false, .bool false, .int .i64 0, .int .i64 0, .int .i64 0, .int .i64 0, .bool false, .bool false, .int .i64 0, .int .i64 0, .int .i64 0, .int .i64 0, .bool false, .bool false, .int .i64 0, .int .i64 0, .int .i64 0, .int .i64 0, .bool false, .bool false, .int .i64 0, .int .i64 0, .int .i64 0] 135)).only ho8 (by omega); have hR8 := (hR5.alloc (.cells #[.int .i64 0, .int .i64 0, .int .i64 0, .int .i64 0, .bool false, .bool false, .int .i64 0, .int .i64 0, .int .i64 0, .int .i64 0, .bool false, .bool false, .int .i64 0, .int .i64 0, .int .i64 0, .int .i64 0, .bool false, .bool false, .int .i64 0, .int .i64 0, .int .i64 0, .int .i64 0, .bool false, .bool false, .int .i64 0, .int .i64 0, .int .i64 0, .int .i64 0, .bool false, .bool false, .int .i64 0, .int .i64 0, .int .i64 0, .int .i64 0, .bool false, .bool false, .int .i64 0, .int .i64 0, .int .i64 0, .int .i64 0, .bool false, .bool false, .int .i64 0, .int .i64 0, .int .i64 0, .int .i64 0, .bool false, .bool false, .int .i64 0, .int .i64 0, .int .i64 0] 135)).only ho8 (by omega); have hB8 := (hB7.alloc hB7.size (.cells #[.int .i64 0, .int .i64 0, .int .i64 0, .int .i64 0, .bool false, .bool false, .int .i64 0, .int .i64 0, .int .i64 0, .int .i64 0, .bool false, .bool false, .int .i64 0, .int .i64 0, .int .i64 0, .int .i64 0, .bool false, .bool false, .int .i64 0, .int .i64 0, .int .i64 0, .int .i64 0, .bool false, .bool false, .int .i64 0, .int .i64 0, .int .i64 0, .int .i64 0, .bool false, .bool false, .int .i64 0, .int .i64 0, .int .i64 0, .int .i64 0, .bool false, .bool false, .int .i64 0, .int .i64 0, .int .i64 0, .int .i64 0, .bool false, .bool false, .int .i64 0, .int .i64 0, .int .i64 0, .int .i64 0, .bool false, .bool false, .int .i64 0, .int .i64 0, .int .i64 0] 135)).trans (ho8.below (B := w.heap.size) hB7.size (by simp; have := hB7.size; omega)); have HB8 := Lib.hid (RBk.mk8 hb8 (psOf_len xs r (q - n) n)); clear hb8 ho8; have x80 := hX8.cell 0; have x81 := hX8.cell 1; have x82 := hX8.cell 2; have x83 := hX8.cell 3; have x84 := hX8.cell 4; have x85 := hX8.cell 5; simp only [List.getElem?_toArray, List.getElem?_cons_zero, List.getElem?_cons_succ] at x80 x81 x82 x83 x84 x85)
        | (go_at_call 104; refine (bput_any w7.heap.size r (q - n) q _ p w8 HB8.out hr1 hr8 (by omega) hq).mono ?_; rintro y w9 ⟨rfl, hbuf9, ho9⟩; rw [hOL, show ((q : Int) + 1) = ((q + 1 : Nat) : Int) by omega] at hbuf9; have HB9 := Lib.hid hbuf9; have hR9 := hR8.only ho9 (by omega); have hB9 := hB8.trans (ho9.below (B := w.heap.size) hB7.size hB8.size); clear hbuf9 ho9)
        | (go_at_call 105; refine (bring_any w7.heap.size r ol (q + 1) _ w9 HB9.out hr1 hr8 hol1 hol2 (by omega)).mono ?_; rintro y w10 ⟨v10, rfl, hown10, hb10⟩; obtain ⟨A10, c10, rfl, hc10, hm10, -⟩ := own_shape hown10; have HO10 := Lib.hid hown10; have hR10 := hR9.below hb10 hR9.lt; have hB10 := hB9.trans (hb10.mono hB9.size); clear hown10 hb10))
      have HYL := Lib.hid (show (putL (r : Int) xs p).length = q + 1 - ol by rw [← HIT.out, items_len])
      have hA10 : Pks w10 w10.heap.size A10 (q + 1 - ol) (putL (r : Int) xs p) := by
        have := Sl.of_own HO10.out
        rw [HIT.out] at this
        exact this
      have hb11 : Below w10.heap.size w10 (w10.alloc (.cells #[.int .i64 r, .int .i64 ((q : Int) + 1), .slice A10 (q + 1 - ol) c10] 34)) := (Below.refl _ _).alloc (Nat.le_refl _) _
      have hT := Bk.new w10 34 #[.int .i64 r, .int .i64 ((q : Int) + 1), .slice A10 (q + 1 - ol) c10]
      have hR11 := hR10.below hb11 hR10.lt
      have hRw : w.heap.size + 1 + 1 < w9.heap.size := hR9.lt
      have HRV2 := Lib.hid (irv_any r ((q : Int) + 1) A10 (q + 1 - ol) c10 (putL (r : Int) xs p) _ ((hA10.below hb11).more hb11.size) (by omega))
      have HM := Lib.hid (show RgO w9.heap.size r ((q : Int) + 1) (putL (r : Int) xs p) (.agg #[.int .i64 r, .int .i64 ((q : Int) + 1), .slice A10 (q + 1 - ol) c10]) w10 from ⟨A10, c10, by rw [HYL.out], by rw [HYL.out]; have h10 := HO10.out; rw [HIT.out] at h10; exact h10⟩)
      have hTw : w.heap.size + 1 + 1 < w10.heap.size := hR10.lt
      have hw9 : w.heap.size ≤ w9.heap.size := hB9.size
      clear x80 x81 x82 x83 x84 x85 hA10
      by_cases q2 : (q : Int) + 1 ≤ 999999
      · have hin : RpIn (r : Int) q xs p := ⟨HG.out, q1, q2⟩
        have HRV3 := Lib.hid (by have := HRV2.out; rw [rgB_true.2 (put_ok hin)] at this; exact this)
        have HIN := Lib.hid hin
        clear q1 hin HRV2
        refine HRV3.out.mono ?_
        rintro y w12 ⟨rfl, hb12⟩
        replace hT := hT.below hb12 hT.lt
        replace hR11 := hR11.below hb12 hR11.lt
        have hB12 := hb11.trans (hb12.mono hb11.size)
        have HB12 := Lib.hid (But.of_new (X := fun k' => k' = w.heap.size + 1 + 1) hB12)
        have HBW := Lib.hid (hB10.trans (hB12.mono hB10.size))
        clear hb12
        (try clear hT_c0); (try clear hT_f0)
        (try clear hT_c1); (try clear hT_f1)
        (try clear hT_c2); (try clear hT_f2)
        (try clear hT_lt)
        have hT_lt := hT.lt; (try simp only [World.size_alloc] at hT_lt)
        have hT_c0 := hT.cell 0; have hT_f0 := hT.frozen 0
        have hT_c1 := hT.cell 1; have hT_f1 := hT.frozen 1
        have hT_c2 := hT.cell 2; have hT_f2 := hT.frozen 2
        simp only [List.getElem?_toArray, List.getElem?_cons_zero, List.getElem?_cons_succ] at hT_c0 hT_c1 hT_c2
        (try clear hR11_c0); (try clear hR11_f0)
        (try clear hR11_c1); (try clear hR11_f1)
        (try clear hR11_c2); (try clear hR11_f2)
        (try clear hR11_lt)
        have hR11_lt := hR11.lt; (try simp only [World.size_alloc] at hR11_lt)
        have hR11_c0 := hR11.cell 0; have hR11_f0 := hR11.frozen 0
        have hR11_c1 := hR11.cell 1; have hR11_f1 := hR11.frozen 1
        have hR11_c2 := hR11.cell 2; have hR11_f2 := hR11.frozen 2
        simp only [List.getElem?_toArray, List.getElem?_cons_zero, List.getElem?_cons_succ] at hR11_c0 hR11_c1 hR11_c2
        go_wp2
        refine ⟨rfl, ?_⟩
        apply Exists.intro
        apply And.intro
        · simp [results, Tryz.results88, go_sem, hR11_c0, hR11_c1, hR11_c2, hR11_lt]; exact rfl
        · exact ⟨fun _ => ⟨_, rfl, (HM.out.but (X := fun k' => k' = w.heap.size + 1 + 1) (by repeat (first | with_reducible exact HB12.out | refine But.setCell ?_ (Or.inl (by show (_ : Nat) = _; rfl)) _)) (fun k' h1 e => by omega)).le hw9, by repeat (first | with_reducible exact HBW.out | refine Below.setCell ?_ (by show w.heap.size ≤ w.heap.size + 1 + 1; omega) _)⟩, fun hno => absurd HIN.out hno⟩
      · have hin : ¬ RpIn (r : Int) q xs p := fun hh => q2 hh.2.2
        have HRV3 := Lib.hid (by have := HRV2.out; rw [(rgB_false (ro := r) (co := (q : Int) + 1) (xs := putL (r : Int) xs p)).2 (fun hh => q2 hh.2.2.2.1)] at this; exact this)
        have HIN := Lib.hid hin
        clear q1 hin HRV2
        refine HRV3.out.mono ?_
        rintro y w12 ⟨rfl, hb12⟩
        replace hR11 := hR11.below hb12 hR11.lt
        have hB12 := hb11.trans (hb12.mono hb11.size)
        have HBW := Lib.hid (hB10.trans (hB12.mono hB10.size))
        clear hb12
        (try clear hR11_c0); (try clear hR11_f0)
        (try clear hR11_c1); (try clear hR11_f1)
        (try clear hR11_c2); (try clear hR11_f2)
        (try clear hR11_lt)
        have hR11_lt := hR11.lt; (try simp only [World.size_alloc] at hR11_lt)
        have hR11_c0 := hR11.cell 0; have hR11_f0 := hR11.frozen 0
        have hR11_c1 := hR11.cell 1; have hR11_f1 := hR11.frozen 1
        have hR11_c2 := hR11.cell 2; have hR11_f2 := hR11.frozen 2
        simp only [List.getElem?_toArray, List.getElem?_cons_zero, List.getElem?_cons_succ] at hR11_c0 hR11_c1 hR11_c2
        go_wp2
        refine ⟨rfl, ?_⟩
        apply Exists.intro
        apply And.intro
        · simp [results, Tryz.results88, go_sem, hR11_c0, hR11_c1, hR11_c2, hR11_lt]; exact rfl
        · exact ⟨fun hin => absurd hin HIN.out, fun _ => ⟨rfl, by repeat (first | with_reducible exact HBW.out | refine Below.setCell ?_ (by show w.heap.size ≤ w.heap.size + 1 + 1; omega) _)⟩⟩
    · have HQV1 := Lib.hid (by have := HQV.out; rw [psB_false.2 q1] at this; exact this)
      have hin : ¬ RpIn (r : Int) q xs p := fun hh => q1 hh.2.1
      refine HQV1.out.mono ?_
      rintro y w6 ⟨rfl, hb6⟩
      replace hR5 := hR5.below hb6 (by first | omega | exact hR5.lt | (simp; done) | (simp; omega))
      (try clear hR5_c0); (try clear hR5_f0)
      (try clear hR5_c1); (try clear hR5_f1)
      (try clear hR5_c2); (try clear hR5_f2)
      (try clear hR5_lt)
      have hR5_lt := hR5.lt; (try simp only [World.size_alloc] at hR5_lt)
      have hR5_c0 := hR5.cell 0; have hR5_f0 := hR5.frozen 0
      have hR5_c1 := hR5.cell 1; have hR5_f1 := hR5.frozen 1
      have hR5_c2 := hR5.cell 2; have hR5_f2 := hR5.frozen 2
      simp only [List.getElem?_toArray, List.getElem?_cons_zero, List.getElem?_cons_succ] at hR5_c0 hR5_c1 hR5_c2
      have hB6 : Below w.heap.size w w6 := hB5.trans (hb6.mono hB5.size)
      have HIN := Lib.hid hin
      clear hb6 hin HQV HQV1
      go_wp2
      refine ⟨rfl, ?_⟩
      apply Exists.intro
      apply And.intro
      · simp [results, Tryz.results88, go_sem, hR5_c0, hR5_c1, hR5_c2, hR5_lt]; exact rfl
      · exact ⟨fun hh => absurd hh HIN.out, fun _ => ⟨rfl, (by repeat (first | exact Below.refl _ _ | assumption | refine Below.setCell ?_ (by first | omega | (simp; done) | (simp; omega)) _ | refine Below.alloc ?_ (by first | omega | (simp; done) | (simp; omega)) _ | refine Below.drew ?_ | refine Below.drewN' ?_ _ | refine Below.trans ?_ (Below.mono (by assumption) (by first | omega | (simp; done) | (simp; omega)))))⟩⟩
  · rw [show pkB p = false from decide_eq_false hp] at hpk
    have HPK := Lib.hid hpk
    have hin : ¬ RpIn (r : Int) q xs p := fun hh => hp (hh.2.1.2 xs.length p (by simp) (by simp)).1
    have HIN := Lib.hid hin
    clear hpk hin
    go_enter Tryz.func88, Tryz.ntmps88
    go_wp2_with fail
    refine (HV.out _ (by repeat (first | exact Below.refl _ _ | assumption | refine Below.setCell ?_ (by first | omega | (simp; done) | (simp; omega)) _ | refine Below.alloc ?_ (by first | omega | (simp; done) | (simp; omega)) _ | refine Below.drew ?_ | refine Below.drewN' ?_ _ | refine Below.trans ?_ (Below.mono (by assumption) (by first | omega | (simp; done) | (simp; omega)))))).mono ?_
    rintro y w1 ⟨rfl, hb1⟩
    replace hP := hP.below hb1 (by first | omega | exact hP.lt | (simp; done) | (simp; omega))
    (try clear hP_c0); (try clear hP_f0)
    (try clear hP_c1); (try clear hP_f1)
    (try clear hP_c2); (try clear hP_f2)
    (try clear hP_lt)
    have hP_lt := hP.lt; (try simp only [World.size_alloc] at hP_lt)
    have hP_c0 := hP.cell 0; have hP_f0 := hP.frozen 0
    have hP_c1 := hP.cell 1; have hP_f1 := hP.frozen 1
    have hP_c2 := hP.cell 2; have hP_f2 := hP.frozen 2
    simp only [List.getElem?_toArray, List.getElem?_cons_zero, List.getElem?_cons_succ] at hP_c0 hP_c1 hP_c2
    replace hX := hX.below hb1 (by first | omega | exact hX.lt | (simp; done) | (simp; omega))
    (try clear hX_c0); (try clear hX_f0)
    (try clear hX_c1); (try clear hX_f1)
    (try clear hX_c2); (try clear hX_f2)
    (try clear hX_c3); (try clear hX_f3)
    (try clear hX_c4); (try clear hX_f4)
    (try clear hX_c5); (try clear hX_f5)
    (try clear hX_lt)
    have hX_lt := hX.lt; (try simp only [World.size_alloc] at hX_lt)
    have hX_c0 := hX.cell 0; have hX_f0 := hX.frozen 0
    have hX_c1 := hX.cell 1; have hX_f1 := hX.frozen 1
    have hX_c2 := hX.cell 2; have hX_f2 := hX.frozen 2
    have hX_c3 := hX.cell 3; have hX_f3 := hX.frozen 3
    have hX_c4 := hX.cell 4; have hX_f4 := hX.frozen 4
    have hX_c5 := hX.cell 5; have hX_f5 := hX.frozen 5
    simp only [List.getElem?_toArray, List.getElem?_cons_zero, List.getElem?_cons_succ] at hX_c0 hX_c1 hX_c2 hX_c3 hX_c4 hX_c5
    replace hR := hR.below hb1 (by first | omega | exact hR.lt | (simp; done) | (simp; omega))
    (try clear hR_c0); (try clear hR_f0)
    (try clear hR_c1); (try clear hR_f1)
    (try clear hR_c2); (try clear hR_f2)
    (try clear hR_lt)
    have hR_lt := hR.lt; (try simp only [World.size_alloc] at hR_lt)
    have hR_c0 := hR.cell 0; have hR_f0 := hR.frozen 0
    have hR_c1 := hR.cell 1; have hR_f1 := hR.frozen 1
    have hR_c2 := hR.cell 2; have hR_f2 := hR.frozen 2
    simp only [List.getElem?_toArray, List.getElem?_cons_zero, List.getElem?_cons_succ] at hR_c0 hR_c1 hR_c2
    have hB1 : Below w.heap.size w w1 := (by repeat (first | exact Below.refl _ _ | assumption | refine Below.setCell ?_ (by first | omega | (simp; done) | (simp; omega)) _ | refine Below.alloc ?_ (by first | omega | (simp; done) | (simp; omega)) _ | refine Below.drew ?_ | refine Below.drewN' ?_ _ | refine Below.trans ?_ (Below.mono (by assumption) (by first | omega | (simp; done) | (simp; omega)))))
    clear hb1
    go_wp2_with fail
    refine (HPK.out _).mono ?_
    rintro y w2 ⟨rfl, hb2⟩
    replace hR := hR.below hb2 (by first | omega | exact hR.lt | (simp; done) | (simp; omega))
    (try clear hR_c0); (try clear hR_f0)
    (try clear hR_c1); (try clear hR_f1)
    (try clear hR_c2); (try clear hR_f2)
    (try clear hR_lt)
    have hR_lt := hR.lt; (try simp only [World.size_alloc] at hR_lt)
    have hR_c0 := hR.cell 0; have hR_f0 := hR.frozen 0
    have hR_c1 := hR.cell 1; have hR_f1 := hR.frozen 1
    have hR_c2 := hR.cell 2; have hR_f2 := hR.frozen 2
    simp only [List.getElem?_toArray, List.getElem?_cons_zero, List.getElem?_cons_succ] at hR_c0 hR_c1 hR_c2
    have hB2 : Below w.heap.size w w2 := hB1.trans (hb2.mono hB1.size)
    clear hb2
    go_wp2
    refine ⟨rfl, ?_⟩
    apply Exists.intro
    apply And.intro
    · simp [results, Tryz.results88, go_sem, hR_c0, hR_c1, hR_c2, hR_lt]; exact rfl
    · exact ⟨fun hh => absurd hh HIN.out, fun _ => ⟨rfl, (by repeat (first | exact Below.refl _ _ | assumption | refine Below.setCell ?_ (by first | omega | (simp; done) | (simp; omega)) _ | refine Below.alloc ?_ (by first | omega | (simp; done) | (simp; omega)) _ | refine Below.drew ?_ | refine Below.drewN' ?_ _ | refine Below.trans ?_ (Below.mono (by assumption) (by first | omega | (simp; done) | (simp; omega)))))⟩⟩
theorem irp_any (ro co : Int) (A : Option Addr) (n c : Nat) (xs : List Pk) (p : Pk) (w : World) (h : Pks w w.heap.size A n xs) (hnc : n ≤ c) (hc : c ≤ maxLen) (hrg : rgOk ro co xs) :
    Calls Tryz.prog 88 #[.agg #[.int .i64 ro, .int .i64 co, .slice A n c], .agg #[.int .i64 p.wi, .int .i64 p.ti, .int .i64 p.la, .int .i64 p.si, .bool p.ky, .bool p.en]] w fun e w' => (RpIn ro co xs p → RgGood ro (co + 1) (putL ro xs p) w e w') ∧ (¬ RpIn ro co xs p → RgBad w e w') :=
  (irpO_any ro co A n c xs p w h hnc hc hrg).mono fun _ _ ⟨h1, h2⟩ => ⟨fun hp => by obtain ⟨v, e1, e2, e3⟩ := h1 hp; exact ⟨v, e1, e2.m, e3⟩, h2⟩
end Go.Proofs.YthbkmnladaneaaaGreatDoor
