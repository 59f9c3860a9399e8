/-
  RingPut of the reference.
  Conditions: as each theorem states them.
-/
import Derived.Deep.RegionHeld3
import Derived.Test.YthbkmnladaneaaaGreatDoorRgV
import Derived.Test.YthbkmnladaneaaaGreatDoorInv
import Derived.Test.YthbkmnladaneaaaGreatDoorApp
import Derived.Test.YthbkmnladaneaaaGreatDoorSet
import Derived.Test.YthbkmnladaneaaaGreatDoorScS
namespace Go.Proofs.YthbkmnladaneaaaGreatDoor
open Go.RowKit
set_option linter.unusedVariables false
set_option linter.unusedSimpArgs false
set_option maxRecDepth 100000

/-- Memory from a block on. -/
def Fr (B : Nat) (A : Option Addr) : Prop := ∀ b o s, A = some ⟨b, o, s⟩ → B ≤ b
theorem Fr.le {B B' : Nat} {A : Option Addr} (h : Fr B A) (hb : B' ≤ B) : Fr B' A := fun b o s e => Nat.le_trans hb (h b o s e)
/-- A ring whose packets lie in memory of the call's own. -/
def RgM (B : Nat) (ro co : Int) (xs : List Pk) (v : Value) (w : World) : Prop := ∃ A c, v = .agg #[.int .i64 ro, .int .i64 co, .slice A xs.length c] ∧ xs.length ≤ c ∧ c ≤ maxLen ∧ Pks w w.heap.size A xs.length xs ∧ Fr B A
def RgGood (ro co : Int) (xs : List Pk) (w : World) (e : Ending) (w' : World) : Prop := ∃ v, e = .returned (.tuple #[v, .bool true]) ∧ RgM w.heap.size ro co xs v w' ∧ Below w.heap.size w w'
def RgBad (w : World) (e : Ending) (w' : World) : Prop := e = .returned (.tuple #[.agg #[.int .i64 0, .int .i64 0, .slice none 0 0], .bool false]) ∧ Below w.heap.size w w'
theorem RgM.but {B : Nat} {ro co : Int} {xs : List Pk} {v : Value} {w w' : World} {X : Nat → Prop} (h : RgM B ro co xs v w) (hb : But X w w') (hX : ∀ k, B ≤ k → ¬ X k) : RgM B ro co xs v w' := by
  obtain ⟨A, c, e, h1, h2, h3, h4⟩ := h
  exact ⟨A, c, e, h1, h2, Sl.more (Sl.but h3 hb fun k o e => hX k (h4 k o _ e)) hb.size, h4⟩
theorem RgM.le {B B' : Nat} {ro co : Int} {xs : List Pk} {v : Value} {w : World} (h : RgM B ro co xs v w) (hb : B' ≤ B) : RgM B' ro co xs v w := by
  obtain ⟨A, c, e, h1, h2, h3, h4⟩ := h
  exact ⟨A, c, e, h1, h2, h3, h4.le hb⟩
/-- The packets behind a put. -/
def putL (ro : Int) (xs : List Pk) (p : Pk) : List Pk := (xs ++ [p]).drop ((xs.length : Int) + 1 - ro).toNat
def RpIn (ro co : Int) (xs : List Pk) (p : Pk) : Prop := rgOk ro co xs ∧ psOk (xs ++ [p]) ∧ co + 1 ≤ 999999
theorem pTo_drop {xs : List Pk} {k : Nat} (h : pTo xs xs.length) : pTo (xs.drop k) (xs.drop k).length := by
  intro j x hj hx
  rw [List.length_drop] at hj
  rw [List.getElem?_drop] at hx
  have h1 := h (k + j) x (by omega) hx
  refine ⟨h1.1, fun y h0 hy => h1.2 y (by omega) ?_⟩
  rw [List.getElem?_drop] at hy
  rw [show k + j - 1 = k + (j - 1) by omega]
  exact hy
theorem psOk_drop {xs : List Pk} {k : Nat} (h : psOk xs) : psOk (xs.drop k) := ⟨by rw [List.length_drop]; have := h.1; omega, pTo_drop h.2⟩
theorem putL_len {ro co : Int} {xs : List Pk} {p : Pk} (h : rgOk ro co xs) : ((putL ro xs p).length : Int) = min ro (co + 1) := by
  obtain ⟨h1, h2, h3, h4, h5, h6⟩ := h
  unfold putL
  rw [List.length_drop, List.length_append]
  simp only [List.length_singleton]
  omega
theorem put_ok {ro co : Int} {xs : List Pk} {p : Pk} (h : RpIn ro co xs p) : rgOk ro (co + 1) (putL ro xs p) := by
  have hl := putL_len (p := p) h.1
  obtain ⟨⟨h1, h2, h3, h4, h5, h6⟩, h7, h8⟩ := h
  exact ⟨h1, h2, by omega, h8, psOk_drop h7, hl⟩
theorem flat_dropP (xs : List Pk) (k : Nat) : (xs.flatMap Pk.c).drop (k * 6) = (xs.drop k).flatMap Pk.c := by
  induction xs generalizing k with
  | nil => simp
  | cons x xs ih =>
    cases k with
    | zero => simp
    | succ k =>
      have e : (k + 1) * 6 = x.c.length + k * 6 := by simp [Pk.c]; omega
      rw [List.flatMap_cons, e, List.drop_append]
      simp [ih]
theorem one_pks (xs : List Pk) : ∀ u ∈ xs.flatMap Pk.c, u.oneCell' = true := by
  intro u hu
  obtain ⟨x, -, hx⟩ := List.mem_flatMap.1 hu
  simp [Pk.c] at hx
  rcases hx with rfl | rfl | rfl | rfl | rfl | rfl <;> rfl
theorem one_pk (x : Pk) : ∀ u ∈ x.c, u.oneCell' = true := fun u hu => one_pks [x] u (by simpa using hu)
theorem pki_info : (Tryz.prog.info? 81).map (fun i => (i.zero, i.size, i.bytes)) = some (some (.agg #[.int .i64 0, .int .i64 0, .int .i64 0, .int .i64 0, .bool false, .bool false]), 6, 40) := by kernel_rfl
theorem bk_types {w : World} {g g' : Nat} {T T' : TypeId} {cs cs' : Array Value} (h : Bk w g T cs) (h' : Bk w g' T' cs') (hs : cs.size ≠ cs'.size) : g ≠ g' := by
  rintro rfl
  unfold Bk at h h'
  rw [h] at h'
  injection h' with h'
  injection h' with h'
  subst h'
  exact hs rfl

/-- What the slots hold of the region that appends a packet to a copy. -/
def IA (T N bR : Nat) (A : Option Addr) (n c : Nat) (xs : List Pk) (p : Pk) : Nat → Value → World → Prop
  | 0, v, w => ∃ g, N ≤ g ∧ v = .slice (some ⟨g, 0, none⟩) 0 0 ∧ Bk w g T #[]
  | 1, v, _ => v = .pointer (some ⟨bR, 2, none⟩)
  | 2, v, _ => v = .slice A n c
  | 3, v, w => w.ownsRow N T 6 v n (xs.flatMap Pk.c)
  | 4, v, _ => v = .agg #[.int .i64 p.wi, .int .i64 p.ti, .int .i64 p.la, .int .i64 p.si, .bool p.ky, .bool p.en]
  | 5, v, w => ∃ g, N ≤ g ∧ v = .slice (some ⟨g, 0, none⟩) 1 1 ∧ Bk w g T #[.int .i64 p.wi, .int .i64 p.ti, .int .i64 p.la, .int .i64 p.si, .bool p.ky, .bool p.en]
  | 6, v, w => w.ownsRow N T 6 v (n + 1) (xs.flatMap Pk.c ++ p.c)
  | 7, v, w => w.ownsRow N T 6 v (n + 1) (xs.flatMap Pk.c ++ p.c)
  | _, _, _ => True
def SA : Nat → List Nat
  | 0 => [3, 6]
  | 3 => [6]
  | 5 => [6]
  | _ => []
def TA : Nat → List Nat
  | 6 => [3]
  | 7 => [6, 3]
  | _ => []
def RA (T : Nat) : Nat → World → World → Prop
  | 3, w, w' => ∃ g, w.grownBy w' (some g) ∧ Bk w g T #[]
  | 6, _, _ => True
  | _, w, w' => Below w.heap.size w w'
theorem RA_below {T i : Nat} {w w' : World} (h5 : i ≠ 3) (h8 : i ≠ 6) (h : RA T i w w') : Below w.heap.size w w' := by
  unfold RA at h
  split at h
  · exact absurd rfl h5
  · exact absurd rfl h8
  · exact h
theorem IA.mono {T N bR : Nat} {A : Option Addr} {n c : Nat} {xs : List Pk} {p : Pk} (i j : Nat) (v : Value) (w w' : World) (hij : i ≠ j) (hs : i ∉ SA j) (ht : i ∉ TA j) (hR : RA T i w w') (h : IA T N bR A n c xs p j v w) : IA T N bR A n c xs p j v w' := by
  unfold IA at *
  split at h
  · obtain ⟨g, h1, h2, h3⟩ := h
    have hb := RA_below (by rintro rfl; simp [SA] at hs) (by rintro rfl; simp [SA] at hs) hR
    exact ⟨g, h1, h2, h3.below hb h3.lt⟩
  · exact h
  · exact h
  · exact own_below h (RA_below hij (by rintro rfl; simp [SA] at hs) hR)
  · exact h
  · obtain ⟨g, h1, h2, h3⟩ := h
    refine ⟨g, h1, h2, ?_⟩
    by_cases h5 : i = 3
    · subst h5
      obtain ⟨g', hg, hk⟩ := hR
      refine h3.grown hg fun he => ?_
      injection he with he
      subst he
      exact bk_types h3 hk (by simp) rfl
    · exact h3.below (RA_below h5 (by rintro rfl; simp [SA] at hs) hR) h3.lt
  · exact own_below h (RA_below (by rintro rfl; simp [TA] at ht) hij hR)
  · exact own_below h (RA_below (by rintro rfl; simp [TA] at ht) (by rintro rfl; simp [TA] at ht) hR)
  · trivial

set_option maxHeartbeats 8000000 in
theorem srp_no (ro co : Int) (A : Option Addr) (n c : Nat) (xs : List Pk) (p : Pk) (w : World) (h : Pks w w.heap.size A n xs) (hn : n ≤ 1099511627776) (hno : ¬ rgOk ro co xs) :
    Calls Tryz.prog 48 #[.agg #[.int .i64 ro, .int .i64 co, .slice A n c], .agg #[.int .i64 p.wi, .int .i64 p.ti, .int .i64 p.la, .int .i64 p.si, .bool p.ky, .bool p.en]] w (RgBad w) := by
  have hR := Bk.new ((w.alloc (.cells #[.int .i64 ro, .int .i64 co, .slice A n c] 34)).alloc (.cells #[.int .i64 p.wi, .int .i64 p.ti, .int .i64 p.la, .int .i64 p.si, .bool p.ky, .bool p.en] 81)) 34 #[.int .i64 0, .int .i64 0, .slice none 0 0]
  simp only [World.size_alloc] at hR
  have HV := Lib.hid (fun (w' : World) (hw : Below w.heap.size w w') => by
    have := srv_any ro co A n c xs w' ((h.below hw).more hw.size) hn
    rw [rgB_false.2 hno] at this
    exact this)
  clear h
  go_enter Tryz.func48, Tryz.ntmps48
  go_wp2_with fail
  refine (HV.out _ (by repeat (first | exact Below.refl _ _ | assumption | refine Below.setCell ?_ (by first | omega | (simp; done) | (simp; omega)) _ | refine Below.alloc ?_ (by first | omega | (simp; done) | (simp; omega)) _ | refine Below.drew ?_ | refine Below.drewN' ?_ _ | refine Below.trans ?_ (Below.mono (by assumption) (by first | omega | (simp; done) | (simp; omega)))))).mono ?_
  rintro y w1 ⟨rfl, hb1⟩
  replace hR := hR.below hb1 (by first | omega | exact hR.lt | (simp; done) | (simp; omega))
  (try clear hR_c0); (try clear hR_f0)
  (try clear hR_c1); (try clear hR_f1)
  (try clear hR_c2); (try clear hR_f2)
  (try clear hR_lt)
  have hR_lt := hR.lt; (try simp only [World.size_alloc] at hR_lt)
  have hR_c0 := hR.cell 0; have hR_f0 := hR.frozen 0
  have hR_c1 := hR.cell 1; have hR_f1 := hR.frozen 1
  have hR_c2 := hR.cell 2; have hR_f2 := hR.frozen 2
  simp only [List.getElem?_toArray, List.getElem?_cons_zero, List.getElem?_cons_succ] at hR_c0 hR_c1 hR_c2
  have hB : Below w.heap.size w w1 := (by repeat (first | exact Below.refl _ _ | assumption | refine Below.setCell ?_ (by first | omega | (simp; done) | (simp; omega)) _ | refine Below.alloc ?_ (by first | omega | (simp; done) | (simp; omega)) _ | refine Below.drew ?_ | refine Below.drewN' ?_ _ | refine Below.trans ?_ (Below.mono (by assumption) (by first | omega | (simp; done) | (simp; omega)))))
  clear hb1
  go_wp2
  refine ⟨rfl, ?_⟩
  apply Exists.intro
  apply And.intro
  · simp [results, Tryz.results48, go_sem, hR_c0, hR_c1, hR_c2, hR_lt]; exact rfl
  · exact ⟨rfl, (by repeat (first | exact Below.refl _ _ | assumption | refine Below.setCell ?_ (by first | omega | (simp; done) | (simp; omega)) _ | refine Below.alloc ?_ (by first | omega | (simp; done) | (simp; omega)) _ | refine Below.drew ?_ | refine Below.drewN' ?_ _ | refine Below.trans ?_ (Below.mono (by assumption) (by first | omega | (simp; done) | (simp; omega)))))⟩

set_option maxHeartbeats 8000000 in
theorem srp_any (ro co : Int) (A : Option Addr) (n c : Nat) (xs : List Pk) (p : Pk) (w : World) (h : Pks w w.heap.size A n xs) (hnc : n ≤ c) (hc : c ≤ maxLen) (hrg : rgOk ro co xs) :
    Calls Tryz.prog 48 #[.agg #[.int .i64 ro, .int .i64 co, .slice A n c], .agg #[.int .i64 p.wi, .int .i64 p.ti, .int .i64 p.la, .int .i64 p.si, .bool p.ky, .bool p.en]] w fun e w' => (RpIn ro co xs p → RgGood ro (co + 1) (putL ro xs p) w e w') ∧ (¬ RpIn ro co xs p → RgBad w e w') := by
  have HL := Lib.hid h.len
  have hn8 : (n : Int) ≤ 8 := by have := hrg.2.2.2.2.2; rw [HL.out] at this; have := hrg.2.1; omega
  have hn9 : n ≤ 8 := by omega
  have hn40 : n ≤ 1099511627776 := by omega
  obtain ⟨r, rfl⟩ := Int.eq_ofNat_of_zero_le (show 0 ≤ ro by have := hrg.1; omega)
  have hr1 : 1 ≤ r := by have := hrg.1; omega
  have hr8 : r ≤ 8 := by have := hrg.2.1; omega
  have hco0 : 0 ≤ co := hrg.2.2.1
  have hco1 : co ≤ 999999 := hrg.2.2.2.1
  have HG := Lib.hid hrg
  have hP := ((Bk.new w 34 #[.int .i64 r, .int .i64 co, .slice A n c]).alloc (.cells #[.int .i64 p.wi, .int .i64 p.ti, .int .i64 p.la, .int .i64 p.si, .bool p.ky, .bool p.en] 81)).alloc (.cells #[.int .i64 0, .int .i64 0, .slice none 0 0] 34)
  have hX := (Bk.new (w.alloc (.cells #[.int .i64 r, .int .i64 co, .slice A n c] 34)) 81 #[.int .i64 p.wi, .int .i64 p.ti, .int .i64 p.la, .int .i64 p.si, .bool p.ky, .bool p.en]).alloc (.cells #[.int .i64 0, .int .i64 0, .slice none 0 0] 34)
  have hR := Bk.new ((w.alloc (.cells #[.int .i64 r, .int .i64 co, .slice A n c] 34)).alloc (.cells #[.int .i64 p.wi, .int .i64 p.ti, .int .i64 p.la, .int .i64 p.si, .bool p.ky, .bool p.en] 81)) 34 #[.int .i64 0, .int .i64 0, .slice none 0 0]
  simp only [World.size_alloc] at hX hR
  have HV := Lib.hid (fun (w' : World) (hw : Below w.heap.size w w') => by
    have := srv_any r co A n c xs w' ((h.below hw).more hw.size) hn40
    rw [rgB_true.2 hrg] at this
    exact this)
  obtain ⟨i0, hi0, hz0, hz1, hz2⟩ := info_parts pki_info
  clear hrg
  go_enter Tryz.func48, Tryz.ntmps48
  go_wp2_with fail
  refine (HV.out _ (by repeat (first | exact Below.refl _ _ | assumption | refine Below.setCell ?_ (by first | omega | (simp; done) | (simp; omega)) _ | refine Below.alloc ?_ (by first | omega | (simp; done) | (simp; omega)) _ | refine Below.drew ?_ | refine Below.drewN' ?_ _ | refine Below.trans ?_ (Below.mono (by assumption) (by first | omega | (simp; done) | (simp; omega)))))).mono ?_
  rintro y w1 ⟨rfl, hb1⟩
  replace hP := hP.below hb1 (by first | omega | exact hP.lt | (simp; done) | (simp; omega))
  (try clear hP_c0); (try clear hP_f0)
  (try clear hP_c1); (try clear hP_f1)
  (try clear hP_c2); (try clear hP_f2)
  (try clear hP_lt)
  have hP_lt := hP.lt; (try simp only [World.size_alloc] at hP_lt)
  have hP_c0 := hP.cell 0; have hP_f0 := hP.frozen 0
  have hP_c1 := hP.cell 1; have hP_f1 := hP.frozen 1
  have hP_c2 := hP.cell 2; have hP_f2 := hP.frozen 2
  simp only [List.getElem?_toArray, List.getElem?_cons_zero, List.getElem?_cons_succ] at hP_c0 hP_c1 hP_c2
  replace hX := hX.below hb1 (by first | omega | exact hX.lt | (simp; done) | (simp; omega))
  (try clear hX_c0); (try clear hX_f0)
  (try clear hX_c1); (try clear hX_f1)
  (try clear hX_c2); (try clear hX_f2)
  (try clear hX_c3); (try clear hX_f3)
  (try clear hX_c4); (try clear hX_f4)
  (try clear hX_c5); (try clear hX_f5)
  (try clear hX_lt)
  have hX_lt := hX.lt; (try simp only [World.size_alloc] at hX_lt)
  have hX_c0 := hX.cell 0; have hX_f0 := hX.frozen 0
  have hX_c1 := hX.cell 1; have hX_f1 := hX.frozen 1
  have hX_c2 := hX.cell 2; have hX_f2 := hX.frozen 2
  have hX_c3 := hX.cell 3; have hX_f3 := hX.frozen 3
  have hX_c4 := hX.cell 4; have hX_f4 := hX.frozen 4
  have hX_c5 := hX.cell 5; have hX_f5 := hX.frozen 5
  simp only [List.getElem?_toArray, List.getElem?_cons_zero, List.getElem?_cons_succ] at hX_c0 hX_c1 hX_c2 hX_c3 hX_c4 hX_c5
  replace hR := hR.below hb1 (by first | omega | exact hR.lt | (simp; done) | (simp; omega))
  (try clear hR_c0); (try clear hR_f0)
  (try clear hR_c1); (try clear hR_f1)
  (try clear hR_c2); (try clear hR_f2)
  (try clear hR_lt)
  have hR_lt := hR.lt; (try simp only [World.size_alloc] at hR_lt)
  have hR_c0 := hR.cell 0; have hR_f0 := hR.frozen 0
  have hR_c1 := hR.cell 1; have hR_f1 := hR.frozen 1
  have hR_c2 := hR.cell 2; have hR_f2 := hR.frozen 2
  simp only [List.getElem?_toArray, List.getElem?_cons_zero, List.getElem?_cons_succ] at hR_c0 hR_c1 hR_c2
  have hB : Below w.heap.size w w1 := (by repeat (first | exact Below.refl _ _ | assumption | refine Below.setCell ?_ (by first | omega | (simp; done) | (simp; omega)) _ | refine Below.alloc ?_ (by first | omega | (simp; done) | (simp; omega)) _ | refine Below.drew ?_ | refine Below.drewN' ?_ _ | refine Below.trans ?_ (Below.mono (by assumption) (by first | omega | (simp; done) | (simp; omega)))))
  clear hb1
  go_wp2_with fail
  (try clear hP_c0); (try clear hP_f0)
  (try clear hP_c1); (try clear hP_f1)
  (try clear hP_c2); (try clear hP_f2)
  (try clear hP_lt)
  (try clear hX_c0); (try clear hX_f0)
  (try clear hX_c1); (try clear hX_f1)
  (try clear hX_c2); (try clear hX_f2)
  (try clear hX_c3); (try clear hX_f3)
  (try clear hX_c4); (try clear hX_f4)
  (try clear hX_c5); (try clear hX_f5)
  (try clear hX_lt)
  (try clear hR_c0); (try clear hR_f0)
  (try clear hR_c1); (try clear hR_f1)
  (try clear hR_c2); (try clear hR_f2)
  (try clear hR_lt)
  have hsl : Pks w1 w.heap.size A n xs := Sl.below h hB
  have hPl := hP.lt
  have hXl := hX.lt
  have hRl := hR.lt
  have hBs := hB.size
  refine wp_region_use SA TA (fun _ => True) [] (fun _ w' => Below w1.heap.size w1 w') (RA 81) (IA 81 w1.heap.size w.heap.size A n c xs p) (by kernel_rfl) (by kernel_rfl) (by kernel_rfl) (Below.drew (Below.refl _ _)) trivial (by kernel_rfl) IA.mono (fun _ _ _ _ _ _ => trivial) ⟨?_, ?_, ?_, ?_, ?_, ?_, ?_, ?_, trivial⟩ ?_
  · intro m y wv hm hb hd _
    have HB := Lib.hid hb
    have hbs := hb.size
    clear hm hd hb
    refine ⟨?_⟩
    simp only [fill, Act.put, List.setIfInBounds_toArray, List.set_cons_zero, List.set_cons_succ]
    go_simp
    exact ⟨(Below.refl _ _).alloc (Nat.le_refl _) _, HB.out.alloc hbs _, _, hbs, rfl, Bk.new _ _ _⟩
  · intro m y wv hm hb hd _
    have HB := Lib.hid hb
    clear hm hd hb
    refine ⟨?_⟩
    simp only [fill, Act.put, List.setIfInBounds_toArray, List.set_cons_zero, List.set_cons_succ]
    go_simp
    exact ⟨Below.refl _ _, HB.out, rfl⟩
  · intro m y wv hm hb hd _
    have d1 := hd { on := 1, ground := .data } (by simp) (by kernel_rfl) (by kernel_rfl)
    replace d1 : y 1 = .pointer (some ⟨w.heap.size, 2, none⟩) := d1
    replace hP := hP.below hb hPl
    (try clear hP_c0); (try clear hP_f0)
    (try clear hP_c1); (try clear hP_f1)
    (try clear hP_c2); (try clear hP_f2)
    (try clear hP_lt)
    have hP_lt := hP.lt; (try simp only [World.size_alloc] at hP_lt)
    have hP_c0 := hP.cell 0; have hP_f0 := hP.frozen 0
    have hP_c1 := hP.cell 1; have hP_f1 := hP.frozen 1
    have hP_c2 := hP.cell 2; have hP_f2 := hP.frozen 2
    simp only [List.getElem?_toArray, List.getElem?_cons_zero, List.getElem?_cons_succ] at hP_c0 hP_c1 hP_c2
    have HB := Lib.hid hb
    clear hm hd hb
    refine ⟨?_⟩
    simp only [fill, Act.put, List.setIfInBounds_toArray, List.set_cons_zero, List.set_cons_succ]
    go_simp
    exact ⟨Below.refl _ _, HB.out, rfl⟩
  · intro m y wv hm hb hd _
    have d0 := hd { on := 0, ground := .data } (by simp) (by kernel_rfl) (by kernel_rfl)
    have d2 := hd { on := 2, ground := .data } (by simp) (by kernel_rfl) (by kernel_rfl)
    obtain ⟨g, hg, hx0, hbk⟩ := d0
    replace d2 : y 2 = .slice A n c := d2
    have hs5 : Sl wv w.heap.size 6 A n (xs.flatMap Pk.c) := Sl.below hsl (hb.mono hBs)
    have own0 : wv.ownsRow w1.heap.size 81 6 (.slice (some ⟨g, 0, none⟩) 0 0) 0 [] := ⟨by simp, .inr ⟨g, 0, #[], rfl, hg, hbk, Nat.le_refl _, Nat.zero_le _, by simp, by simp⟩⟩
    clear hm hd
    refine ⟨?_⟩
    simp only [fill, Act.put, List.setIfInBounds_toArray, List.set_cons_zero, List.set_cons_succ]
    refine wp_app wv (.tmp 12) (.tmp 14) 32 rfl w1.heap.size 81 i0 (.agg #[.int .i64 0, .int .i64 0, .int .i64 0, .int .i64 0, .bool false, .bool false]) 6 40 Tryz.underlying32 hi0 hz0 hz1 hz2 rfl (by omega) _ 0 [] ?_ own0 w.heap.size A n c _ ?_ hs5 (one_pks _) (by unfold maxLen; omega) (by omega) hb.size ?_
    · exact hx0
    · exact d2
    intro v' w' hown hgr hat
    exact ⟨v', rfl, ⟨g, hgr, hbk⟩, Below.grown_own hb hgr own0 (Nat.le_refl _) hb.size, by simpa [IA] using hown⟩
  · intro m y wv hm hb hd _
    replace hX := hX.below hb hXl
    (try clear hX_c0); (try clear hX_f0)
    (try clear hX_c1); (try clear hX_f1)
    (try clear hX_c2); (try clear hX_f2)
    (try clear hX_c3); (try clear hX_f3)
    (try clear hX_c4); (try clear hX_f4)
    (try clear hX_c5); (try clear hX_f5)
    (try clear hX_lt)
    have hX_lt := hX.lt; (try simp only [World.size_alloc] at hX_lt)
    have hX_c0 := hX.cell 0; have hX_f0 := hX.frozen 0
    have hX_c1 := hX.cell 1; have hX_f1 := hX.frozen 1
    have hX_c2 := hX.cell 2; have hX_f2 := hX.frozen 2
    have hX_c3 := hX.cell 3; have hX_f3 := hX.frozen 3
    have hX_c4 := hX.cell 4; have hX_f4 := hX.frozen 4
    have hX_c5 := hX.cell 5; have hX_f5 := hX.frozen 5
    simp only [List.getElem?_toArray, List.getElem?_cons_zero, List.getElem?_cons_succ] at hX_c0 hX_c1 hX_c2 hX_c3 hX_c4 hX_c5
    have HB := Lib.hid hb
    clear hm hd hb
    refine ⟨?_⟩
    simp only [fill, Act.put, List.setIfInBounds_toArray, List.set_cons_zero, List.set_cons_succ]
    go_simp
    exact ⟨Below.refl _ _, HB.out, rfl⟩
  · intro m y wv hm hb hd _
    have d6 := hd { on := 4, ground := .data } (by simp) (by kernel_rfl) (by kernel_rfl)
    replace d6 : y 4 = .agg #[.int .i64 p.wi, .int .i64 p.ti, .int .i64 p.la, .int .i64 p.si, .bool p.ky, .bool p.en] := d6
    have HB := Lib.hid hb
    have hbs := hb.size
    clear hm hd hb
    refine ⟨?_⟩
    simp only [fill, Act.put, List.setIfInBounds_toArray, List.set_cons_zero, List.set_cons_succ]
    go_simp
    exact ⟨(Below.refl _ _).alloc (Nat.le_refl _) _, HB.out.alloc hbs _, _, hbs, rfl, Bk.new _ _ _⟩
  · intro m y wv hm hb hd _
    have d5 := hd { on := 3, ground := .data } (by simp) (by kernel_rfl) (by kernel_rfl)
    have d7 := hd { on := 5, ground := .data } (by simp) (by kernel_rfl) (by kernel_rfl)
    obtain ⟨g, hg, hx7, hbk⟩ := d7
    replace d5 : wv.ownsRow w1.heap.size 81 6 (y 3) n (xs.flatMap Pk.c) := d5
    have hs8 : Sl wv wv.heap.size 6 (some ⟨g, 0, none⟩) 1 p.c := ⟨rfl, fun _ => ⟨g, 0, rfl, hbk.lt, fun j u hu => by rw [Nat.zero_add, hbk.cell j]; simpa [Pk.c] using hu⟩⟩
    clear hm hd
    refine ⟨?_⟩
    simp only [fill, Act.put, List.setIfInBounds_toArray, List.set_cons_zero, List.set_cons_succ]
    refine wp_app wv (.tmp 15) (.tmp 17) 32 rfl w1.heap.size 81 i0 (.agg #[.int .i64 0, .int .i64 0, .int .i64 0, .int .i64 0, .bool false, .bool false]) 6 40 Tryz.underlying32 hi0 hz0 hz1 hz2 rfl (by omega) (y 3) n _ ?_ d5 wv.heap.size (some ⟨g, 0, none⟩) 1 1 p.c ?_ hs8 (one_pk p) (by unfold maxLen; omega) (by omega) hb.size ?_
    · rfl
    · exact hx7
    intro v' w' hown hgr hat
    exact ⟨v', rfl, trivial, Below.grown_own hb hgr d5 (Nat.le_refl _) hb.size, hown⟩
  · intro m y wv hm hb hd _
    have d8 := Lib.hid (hd { on := 6, ground := .data } (by simp) (by kernel_rfl) (by kernel_rfl))
    have HB := Lib.hid hb
    clear hm hd hb
    refine ⟨?_⟩
    simp only [fill, Act.put, List.setIfInBounds_toArray, List.set_cons_zero, List.set_cons_succ]
    go_simp
    exact ⟨Below.refl _ _, HB.out, d8.out⟩
  · intro y W2 hb hI
    have h9 : W2.ownsRow w1.heap.size 81 6 (y 7) (n + 1) (xs.flatMap Pk.c ++ p.c) := hI 7 (by decide) rfl
    clear hI
    have hP2 := hP.below hb hPl
    have hR2 := hR.below hb hRl
    have hBW := hB.trans (hb.mono hB.size)
    obtain ⟨v7, hv7⟩ : ∃ v, y 7 = v := ⟨_, rfl⟩
    rw [hv7] at h9
    obtain ⟨g, cap, rfl, hg1, hg2, hcap, hcapm⟩ := own_head h9 (by omega)
    have hA6 : Pks W2 W2.heap.size (some ⟨g, 0, none⟩) (n + 1) (xs ++ [p]) := by
      have := Sl.of_own h9
      unfold Pks
      rw [List.flatMap_append]
      simpa using this
    refine ⟨?_⟩
    simp only [fill, Act.put, List.setIfInBounds_toArray, List.set_cons_zero, List.set_cons_succ, hv7]
    have hkm : max ((n : Int) + 1 - r) 0 = ((n + 1 - r : Nat) : Int) := by omega
    obtain ⟨k, hk⟩ : ∃ k, n + 1 - r = k := ⟨_, rfl⟩
    rw [hk] at hkm
    have hput : putL (r : Int) xs p = (xs ++ [p]).drop k := by
      unfold putL
      rw [HL.out, show ((n : Int) + 1 - r).toNat = k by omega]
    have hkn : k ≤ n := by omega
    have hA7 : Pks W2 W2.heap.size (some ⟨g, k * 6, none⟩) (n + 1 - k) (putL (r : Int) xs p) := by
      have h5 := Sl.drop_ (k := k) (c := cap) hA6 (by omega) hcap
      rw [flat_dropP, if_neg (by omega), ← hput] at h5
      unfold Pks
      simpa [add_plain] using h5
    have hmx := fun (w : World) (ts : Array TypeId) (t : TypeId) (x y : Int) => @run_max_plain Tryz.prog w ts t x y
    have hkm2 : max (((n + 1 : Nat) : Int) - (r : Int)) 0 = (k : Int) := by omega
    have H9 := Lib.hid h9
    have HA6 := Lib.hid hA6
    have HA7 := Lib.hid hA7
    have HPUT := Lib.hid hput
    have HBW := Lib.hid hBW
    have f1 : (0 : Int) ≤ k := by omega
    have f2 : (k : Int) ≤ ((n + 1 : Nat) : Int) := by omega
    have f3 : ((n + 1 : Nat) : Int) ≤ cap := by omega
    have f5 : (k : Int) ≤ cap := by omega
    have f4 : ¬ cap = k := by omega
    have HK := Lib.hid hk
    generalize hN : n + 1 = N at *
    have hgw : g < W2.heap.size := hg2
    clear h9 hA6 hA7 hput hb hv7 hkm hk hsl hBW
    have HNN := Lib.hid hN
    have wr1 : IntKind.i64.wrap ((N : Int) - (r : Int)) = (N : Int) - r := by rw [IntKind.wrap_i64]; omega
    have wr2 : IntKind.i64.wrap (co + 1) = co + 1 := by rw [IntKind.wrap_i64]; omega
    have hN9 : N ≤ 9 := by omega
    clear hN
    (try clear hP2_c0); (try clear hP2_f0)
    (try clear hP2_c1); (try clear hP2_f1)
    (try clear hP2_c2); (try clear hP2_f2)
    (try clear hP2_lt)
    have hP2_lt := hP2.lt; (try simp only [World.size_alloc] at hP2_lt)
    have hP2_c0 := hP2.cell 0; have hP2_f0 := hP2.frozen 0
    have hP2_c1 := hP2.cell 1; have hP2_f1 := hP2.frozen 1
    have hP2_c2 := hP2.cell 2; have hP2_f2 := hP2.frozen 2
    simp only [List.getElem?_toArray, List.getElem?_cons_zero, List.getElem?_cons_succ] at hP2_c0 hP2_c1 hP2_c2
    go_wp2_with fail
    have hW2 : w.heap.size < W2.heap.size := hP2.lt
    go_region_held3 (fun w' => w'.cell? ⟨w.heap.size, 0, none⟩ = some (.int .i64 r) ∧ w'.cell? ⟨w.heap.size, 1, none⟩ = some (.int .i64 co)) ((first | go_keep | (repeat' (first | with_reducible assumption | apply And.intro | rw [World.cell?_setCell_other _ _ _ _ (fun e => by injection e; omega)]))))
      (fail)
    all_goals
      have hO := (Bk.new W2 34 #[.int .i64 r, .int .i64 (co + 1), .slice (some ⟨g, k * 6, none⟩) (N - k) (cap - k)]).drew
      have hBa : Below W2.heap.size W2 (W2.alloc (.cells #[.int .i64 r, .int .i64 (co + 1), .slice (some ⟨g, k * 6, none⟩) (N - k) (cap - k)] 34)).drew := Below.drew (Below.alloc (Below.refl _ _) (Nat.le_refl _) _)
      have hR3 := hR2.below hBa hR2.lt
      have hR2l := hR2.lt
      generalize (W2.alloc (.cells #[.int .i64 r, .int .i64 (co + 1), .slice (some ⟨g, k * 6, none⟩) (N - k) (cap - k)] 34)).drew = WA at *
      have HPV := Lib.hid (fun (w' : World) (hw : Below W2.heap.size W2 w') => sps_any (some ⟨g, 0, none⟩) N cap (xs ++ [p]) w' ((HA6.out.below hw).more hw.size) (by omega))
      have HRV := Lib.hid (fun (w' : World) (hw : Below W2.heap.size W2 w') => srv_any r (co + 1) (some ⟨g, k * 6, none⟩) (N - k) (cap - k) (putL (r : Int) xs p) w' ((HA7.out.below hw).more hw.size) (by omega))
      have HML := Lib.hid HA7.out.len
      have HM := Lib.hid (show RgM w1.heap.size r (co + 1) (putL (r : Int) xs p) (.agg #[.int .i64 r, .int .i64 (co + 1), .slice (some ⟨g, k * 6, none⟩) (N - k) (cap - k)]) W2 from ⟨_, _, by rw [HML.out], by rw [HML.out]; omega, by omega, by rw [HML.out]; exact HA7.out, fun b o s' e => by injection e with e; injection e with e; omega⟩)
      (try clear hP2_c0); (try clear hP2_f0)
      (try clear hP2_c1); (try clear hP2_f1)
      (try clear hP2_c2); (try clear hP2_f2)
      (try clear hP2_lt)
      clear f1 f2 f3 f4 f5 wr1 wr2 hmx hkm2 hP hX hR
      by_cases q1 : psOk (xs ++ [p])
      · rw [psB_true.2 q1] at HPV
        by_cases q2 : co + 1 ≤ 999999
        · have hin : RpIn (r : Int) co xs p := ⟨HG.out, q1, q2⟩
          rw [rgB_true.2 (put_ok hin)] at HRV
          have HIN := Lib.hid hin
          clear q1 hin
          (try clear hO_c0); (try clear hO_f0)
          (try clear hO_c1); (try clear hO_f1)
          (try clear hO_c2); (try clear hO_f2)
          (try clear hO_lt)
          have hO_lt := hO.lt; (try simp only [World.size_alloc] at hO_lt)
          have hO_c0 := hO.cell 0; have hO_f0 := hO.frozen 0
          have hO_c1 := hO.cell 1; have hO_f1 := hO.frozen 1
          have hO_c2 := hO.cell 2; have hO_f2 := hO.frozen 2
          simp only [List.getElem?_toArray, List.getElem?_cons_zero, List.getElem?_cons_succ] at hO_c0 hO_c1 hO_c2
          (try clear hR3_c0); (try clear hR3_f0)
          (try clear hR3_c1); (try clear hR3_f1)
          (try clear hR3_c2); (try clear hR3_f2)
          (try clear hR3_lt)
          have hR3_lt := hR3.lt; (try simp only [World.size_alloc] at hR3_lt)
          have hR3_c0 := hR3.cell 0; have hR3_f0 := hR3.frozen 0
          have hR3_c1 := hR3.cell 1; have hR3_f1 := hR3.frozen 1
          have hR3_c2 := hR3.cell 2; have hR3_f2 := hR3.frozen 2
          simp only [List.getElem?_toArray, List.getElem?_cons_zero, List.getElem?_cons_succ] at hR3_c0 hR3_c1 hR3_c2
          go_wp2_with (first | (go_at_call 65; refine (HPV.out _ hBa).mono ?_; rintro e w4 ⟨rfl, hb4⟩; have hO4 := hO.below hb4 hO.lt; have hB4 := hBa.trans (hb4.mono hBa.size); have o40 := hO4.cell 0; have o41 := hO4.cell 1; have o42 := hO4.cell 2; simp only [List.getElem?_toArray, List.getElem?_cons_zero, List.getElem?_cons_succ] at o40 o41 o42) | (go_at_call 50; refine (HRV.out _ hB4).mono ?_; rintro e w5 ⟨rfl, hb5⟩; have hO5 := hO4.below hb5 hO4.lt; have hB5 := hB4.trans (hb5.mono hB4.size); have hR5 := hR2.below hB5 hR2.lt; have o50 := hO5.cell 0; have o51 := hO5.cell 1; have o52 := hO5.cell 2; have r50 := hR5.cell 0; have r51 := hR5.cell 1; have r52 := hR5.cell 2; have z50 := hR5.frozen 0; have z51 := hR5.frozen 1; have z52 := hR5.frozen 2; simp only [List.getElem?_toArray, List.getElem?_cons_zero, List.getElem?_cons_succ] at o50 o51 o52 r50 r51 r52))
          have HB5 := Lib.hid (But.of_new (X := fun k' => k' = w.heap.size + 1 + 1) hB5)
          have HBW5 := Lib.hid (HBW.out.trans (hB5.mono HBW.out.size))
          (try clear hR5_c0); (try clear hR5_f0)
          (try clear hR5_c1); (try clear hR5_f1)
          (try clear hR5_c2); (try clear hR5_f2)
          (try clear hR5_lt)
          have hR5_lt := hR5.lt; (try simp only [World.size_alloc] at hR5_lt)
          have hR5_c0 := hR5.cell 0; have hR5_f0 := hR5.frozen 0
          have hR5_c1 := hR5.cell 1; have hR5_f1 := hR5.frozen 1
          have hR5_c2 := hR5.cell 2; have hR5_f2 := hR5.frozen 2
          simp only [List.getElem?_toArray, List.getElem?_cons_zero, List.getElem?_cons_succ] at hR5_c0 hR5_c1 hR5_c2
          refine ⟨rfl, ?_⟩
          apply Exists.intro
          apply And.intro
          · simp [results, Tryz.results48, go_sem, hR5_c0, hR5_c1, hR5_c2, hR5_lt]; exact rfl
          · exact ⟨fun _ => ⟨_, rfl, (HM.out.but (X := fun k' => k' = w.heap.size + 1 + 1) (by repeat (first | with_reducible exact HB5.out | refine But.setCell ?_ (Or.inl (by show (_ : Nat) = _; rfl)) _)) (fun k' h1 e => by omega)).le hBs, by repeat (first | with_reducible exact HBW5.out | refine Below.setCell ?_ (by show w.heap.size ≤ w.heap.size + 1 + 1; omega) _)⟩, fun hno => absurd HIN.out hno⟩
        · have hin : ¬ RpIn (r : Int) co xs p := fun hh => q2 hh.2.2
          rw [(rgB_false (ro := r) (co := co + 1) (xs := putL (r : Int) xs p)).2 (fun hh => q2 hh.2.2.2.1)] at HRV
          have HIN := Lib.hid hin
          clear q1 hin
          (try clear hO_c0); (try clear hO_f0)
          (try clear hO_c1); (try clear hO_f1)
          (try clear hO_c2); (try clear hO_f2)
          (try clear hO_lt)
          have hO_lt := hO.lt; (try simp only [World.size_alloc] at hO_lt)
          have hO_c0 := hO.cell 0; have hO_f0 := hO.frozen 0
          have hO_c1 := hO.cell 1; have hO_f1 := hO.frozen 1
          have hO_c2 := hO.cell 2; have hO_f2 := hO.frozen 2
          simp only [List.getElem?_toArray, List.getElem?_cons_zero, List.getElem?_cons_succ] at hO_c0 hO_c1 hO_c2
          (try clear hR3_c0); (try clear hR3_f0)
          (try clear hR3_c1); (try clear hR3_f1)
          (try clear hR3_c2); (try clear hR3_f2)
          (try clear hR3_lt)
          have hR3_lt := hR3.lt; (try simp only [World.size_alloc] at hR3_lt)
          have hR3_c0 := hR3.cell 0; have hR3_f0 := hR3.frozen 0
          have hR3_c1 := hR3.cell 1; have hR3_f1 := hR3.frozen 1
          have hR3_c2 := hR3.cell 2; have hR3_f2 := hR3.frozen 2
          simp only [List.getElem?_toArray, List.getElem?_cons_zero, List.getElem?_cons_succ] at hR3_c0 hR3_c1 hR3_c2
          go_wp2_with (first | (go_at_call 65; refine (HPV.out _ hBa).mono ?_; rintro e w4 ⟨rfl, hb4⟩; have hO4 := hO.below hb4 hO.lt; have hB4 := hBa.trans (hb4.mono hBa.size); have o40 := hO4.cell 0; have o41 := hO4.cell 1; have o42 := hO4.cell 2; simp only [List.getElem?_toArray, List.getElem?_cons_zero, List.getElem?_cons_succ] at o40 o41 o42) | (go_at_call 50; refine (HRV.out _ hB4).mono ?_; rintro e w5 ⟨rfl, hb5⟩; have hB5 := hB4.trans (hb5.mono hB4.size); have hR5 := hR2.below hB5 hR2.lt; have r50 := hR5.cell 0; have r51 := hR5.cell 1; have r52 := hR5.cell 2; have z50 := hR5.frozen 0; have z51 := hR5.frozen 1; have z52 := hR5.frozen 2; simp only [List.getElem?_toArray, List.getElem?_cons_zero, List.getElem?_cons_succ] at r50 r51 r52))
          have HBW5 := Lib.hid (HBW.out.trans (hB5.mono HBW.out.size))
          (try clear hR5_c0); (try clear hR5_f0)
          (try clear hR5_c1); (try clear hR5_f1)
          (try clear hR5_c2); (try clear hR5_f2)
          (try clear hR5_lt)
          have hR5_lt := hR5.lt; (try simp only [World.size_alloc] at hR5_lt)
          have hR5_c0 := hR5.cell 0; have hR5_f0 := hR5.frozen 0
          have hR5_c1 := hR5.cell 1; have hR5_f1 := hR5.frozen 1
          have hR5_c2 := hR5.cell 2; have hR5_f2 := hR5.frozen 2
          simp only [List.getElem?_toArray, List.getElem?_cons_zero, List.getElem?_cons_succ] at hR5_c0 hR5_c1 hR5_c2
          refine ⟨rfl, ?_⟩
          apply Exists.intro
          apply And.intro
          · simp [results, Tryz.results48, go_sem, hR5_c0, hR5_c1, hR5_c2, hR5_lt]; exact rfl
          · exact ⟨fun hin => absurd hin HIN.out, fun _ => ⟨rfl, by repeat (first | with_reducible exact HBW5.out | refine Below.setCell ?_ (by show w.heap.size ≤ w.heap.size + 1 + 1; omega) _)⟩⟩
      · have hin : ¬ RpIn (r : Int) co xs p := fun hh => q1 hh.2.1
        rw [psB_false.2 q1] at HPV
        have HIN := Lib.hid hin
        clear q1 hin
        (try clear hO_c0); (try clear hO_f0)
        (try clear hO_c1); (try clear hO_f1)
        (try clear hO_c2); (try clear hO_f2)
        (try clear hO_lt)
        have hO_lt := hO.lt; (try simp only [World.size_alloc] at hO_lt)
        have hO_c0 := hO.cell 0; have hO_f0 := hO.frozen 0
        have hO_c1 := hO.cell 1; have hO_f1 := hO.frozen 1
        have hO_c2 := hO.cell 2; have hO_f2 := hO.frozen 2
        simp only [List.getElem?_toArray, List.getElem?_cons_zero, List.getElem?_cons_succ] at hO_c0 hO_c1 hO_c2
        (try clear hR3_c0); (try clear hR3_f0)
        (try clear hR3_c1); (try clear hR3_f1)
        (try clear hR3_c2); (try clear hR3_f2)
        (try clear hR3_lt)
        have hR3_lt := hR3.lt; (try simp only [World.size_alloc] at hR3_lt)
        have hR3_c0 := hR3.cell 0; have hR3_f0 := hR3.frozen 0
        have hR3_c1 := hR3.cell 1; have hR3_f1 := hR3.frozen 1
        have hR3_c2 := hR3.cell 2; have hR3_f2 := hR3.frozen 2
        simp only [List.getElem?_toArray, List.getElem?_cons_zero, List.getElem?_cons_succ] at hR3_c0 hR3_c1 hR3_c2
        go_wp2_with (first | (go_at_call 65; refine (HPV.out _ hBa).mono ?_; rintro e w5 ⟨rfl, hb5⟩; have hB5 := hBa.trans (hb5.mono hBa.size); have hR5 := hR2.below hB5 hR2.lt; have r50 := hR5.cell 0; have r51 := hR5.cell 1; have r52 := hR5.cell 2; have z50 := hR5.frozen 0; have z51 := hR5.frozen 1; have z52 := hR5.frozen 2; simp only [List.getElem?_toArray, List.getElem?_cons_zero, List.getElem?_cons_succ] at r50 r51 r52))
        have HBW5 := Lib.hid (HBW.out.trans (hB5.mono HBW.out.size))
        (try clear hR5_c0); (try clear hR5_f0)
        (try clear hR5_c1); (try clear hR5_f1)
        (try clear hR5_c2); (try clear hR5_f2)
        (try clear hR5_lt)
        have hR5_lt := hR5.lt; (try simp only [World.size_alloc] at hR5_lt)
        have hR5_c0 := hR5.cell 0; have hR5_f0 := hR5.frozen 0
        have hR5_c1 := hR5.cell 1; have hR5_f1 := hR5.frozen 1
        have hR5_c2 := hR5.cell 2; have hR5_f2 := hR5.frozen 2
        simp only [List.getElem?_toArray, List.getElem?_cons_zero, List.getElem?_cons_succ] at hR5_c0 hR5_c1 hR5_c2
        refine ⟨rfl, ?_⟩
        apply Exists.intro
        apply And.intro
        · simp [results, Tryz.results48, go_sem, hR5_c0, hR5_c1, hR5_c2, hR5_lt]; exact rfl
        · exact ⟨fun hin => absurd hin HIN.out, fun _ => ⟨rfl, by repeat (first | with_reducible exact HBW5.out | refine Below.setCell ?_ (by show w.heap.size ≤ w.heap.size + 1 + 1; omega) _)⟩⟩
end Go.Proofs.YthbkmnladaneaaaGreatDoor
