/-
  Rings: the drawn ring and packet; a packet of the program's ring by its number.
  Conditions: as each theorem states them.
-/
import Derived.Test.YtjhppghkhfacaaaRgG
import Derived.Test.YtjhppghkhfacaaaRgN
import Derived.Test.YtjhppghkhfacaaaRgL
namespace Go.Proofs.Ytjhppghkhfacaaa
open Go.RowKit
set_option linter.unusedVariables false
set_option linter.unusedSimpArgs false

/-- What the slots hold of the regions that turn a packet's number and time. -/
def IQa (g gp gq : Nat) : Nat → Value → World → Prop
  | 0, v, _ => v = .pointer (some ⟨gq, 0, none⟩)
  | 1, v, _ => VAny v
  | 2, v, _ => v = .pointer (some ⟨g, 0, none⟩)
  | 3, v, _ => VInt 0 4 v
  | 4, v, _ => VAny v
  | 5, v, _ => v = .pointer (some ⟨gp, 0, none⟩)
  | _, _, _ => True
theorem IQa.mono {g gp gq : Nat} (j : Nat) (v : Value) (w w' : World) (R : True) (h : IQa g gp gq j v w) : IQa g gp gq j v w' := by
  unfold IQa at *
  split at h <;> exact h
def IQb (g gp gq : Nat) : Nat → Value → World → Prop
  | 0, v, _ => v = .pointer (some ⟨gq, 1, none⟩)
  | 1, v, _ => VAny v
  | 2, v, _ => v = .pointer (some ⟨g, 0, none⟩)
  | 3, v, _ => VInt 0 1 v
  | 4, v, _ => VAny v
  | 5, v, _ => VAny v
  | 6, v, _ => v = .pointer (some ⟨gp, 1, none⟩)
  | _, _, _ => True
theorem IQb.mono {g gp gq : Nat} (j : Nat) (v : Value) (w w' : World) (R : True) (h : IQb g gp gq j v w) : IQb g gp gq j v w' := by
  unfold IQb at *
  split at h <;> exact h
/-- A packet in a block. -/
def PkBk (T : TypeId) (w : World) (b : Nat) : Prop := ∃ x : Pk, Bk w b T #[.int .i64 x.wi, .int .i64 x.ti, .int .i64 x.la, .int .i64 x.si, .bool x.ky, .bool x.en]
theorem PkBk.drew_ {T : TypeId} {w : World} {b : Nat} (h : PkBk T w b) : PkBk T w.drew b := h
theorem PkBk.only_ {T : TypeId} {w w' : World} {b g : Nat} (h : PkBk T w b) (ho : Only g w w') (hb : b ≠ g) : PkBk T w' b := by
  obtain ⟨x, hx⟩ := h
  exact ⟨x, hx.only ho hb⟩
def C3 (T : TypeId) (w : World) (b : Nat) : Prop := ∃ c0 c1 c2, Bk w b T #[c0, c1, c2]
def C6 (T : TypeId) (w : World) (b : Nat) : Prop := ∃ c0 c1 c2 c3 c4 c5, Bk w b T #[c0, c1, c2, c3, c4, c5]
structure KpR (T T' r : Nat) (a b : Array Value) (w w' : World) : Prop where
  a : Bk w r T a → Bk w' r T a
  b : Bk w (r + 1) T' b → Bk w' (r + 1) T' b
/-- What the slots hold of the end: both results. -/
def IQe (T T' r : Nat) (ro co : Int) (A : Option Addr) (n c : Nat) (x : Pk) : Nat → Value → World → Prop
  | 0, v, _ => v = .agg #[.int .i64 ro, .int .i64 co, .slice A n c]
  | 1, v, _ => v = .agg #[.int .i64 x.wi, .int .i64 x.ti, .int .i64 x.la, .int .i64 x.si, .bool x.ky, .bool x.en]
  | 2, _, w => Bk w r T #[.int .i64 ro, .int .i64 co, .slice A n c]
  | 3, _, w => Bk w (r + 1) T' #[.int .i64 x.wi, .int .i64 x.ti, .int .i64 x.la, .int .i64 x.si, .bool x.ky, .bool x.en]
  | _, _, _ => True
theorem IQe.mono {T T' r : Nat} {ro co : Int} {A : Option Addr} {n c : Nat} {x : Pk} (j : Nat) (v : Value) (w w' : World) (hR : KpR T T' r #[.int .i64 ro, .int .i64 co, .slice A n c] #[.int .i64 x.wi, .int .i64 x.ti, .int .i64 x.la, .int .i64 x.si, .bool x.ky, .bool x.en] w w') (h : IQe T T' r ro co A n c x j v w) : IQe T T' r ro co A n c x j v w' := by
  unfold IQe at *
  split at h
  · exact h
  · exact h
  · exact hR.a h
  · exact hR.b h
  · trivial

/-- A ring and a packet were drawn. -/
def RingPutDrawn (w : World) (y : Ending) (w' : World) : Prop := ∃ (a b u : Value) (x : Pk), y = .returned (.tuple #[.agg #[a, b, u], .agg #[.int .i64 x.wi, .int .i64 x.ti, .int .i64 x.la, .int .i64 x.si, .bool x.ky, .bool x.en]]) ∧ RiF 1 w.heap.size a b u w' ∧ Below w.heap.size w w'

set_option maxHeartbeats 8000000 in
theorem draw_rput (A : Option Addr) (n c : Nat) (w : World) (h : Bytes w w.heap.size A n) (hnc : n ≤ c) (hc : c ≤ maxLen) :
    Calls Try.prog 7 #[.slice A n c] w (RingPutDrawn w) := by
  have hres := (Bk.new w 25 #[.int .i64 0, .int .i64 0, .slice none 0 0]).alloc (.cells #[.int .i64 0, .int .i64 0, .int .i64 0, .int .i64 0, .bool false, .bool false] 27)
  have hre2 := Bk.new (w.alloc (.cells #[.int .i64 0, .int .i64 0, .slice none 0 0] 25)) 27 #[.int .i64 0, .int .i64 0, .int .i64 0, .int .i64 0, .bool false, .bool false]
  have hall0 : Below w.heap.size w ((w.alloc (.cells #[.int .i64 0, .int .i64 0, .slice none 0 0] 25)).alloc (.cells #[.int .i64 0, .int .i64 0, .int .i64 0, .int .i64 0, .bool false, .bool false] 27)) := (by repeat (first | exact Below.refl _ _ | assumption | refine Below.setCell ?_ (by first | omega | (simp; done) | (simp; omega)) _ | refine Below.alloc ?_ (by first | omega | (simp; done) | (simp; omega)) _ | refine Below.drew ?_ | refine Below.drewN' ?_ _ | refine Below.trans ?_ (Below.mono (by assumption) (by first | omega | (simp; done) | (simp; omega)))))
  simp only [World.size_alloc] at hre2
  go_enter Try.func7, Try.ntmps7
  go_wp2_with fail
  refine (open_any A n c _ ((h.below hall0).more (by simp; omega)) hnc hc).mono ?_
  rintro e w1 ⟨rfl, hrd, hb1⟩
  have hB1 := hall0.trans (hb1.mono (by simp; omega))
  have hres1 := hres.below hb1 (by simp; omega)
  have hre21 := hre2.below hb1 (by simp)
  simp only [World.size_alloc] at hrd
  have hl1 := hrd.lt
  clear hres hre2 hall0 hb1
  go_wp2_with fail
  refine (l91Ring_any _ _ _ _ hrd (by omega)).mono ?_
  rintro e w2 ⟨a, b, u, rfl, hpf, hrd2, ho⟩
  have hB2 := hB1.trans (ho.below (by omega) (by omega))
  replace hres1 := hres1.only ho (by first | omega | (simp; done) | (simp; omega))
  replace hre21 := hre21.only ho (by first | omega | (simp; done) | (simp; omega))
  obtain ⟨ro, co, A2, n2, c2, xs, rfl, rfl, rfl, hn8, hnc2, hc2, hco0, hco1, hpk, hfr⟩ := hpf
  have hs2 := ho.size
  have hl2 := hrd2.lt
  have hfr0 : ∀ k o, A2 = some ⟨k, o, none⟩ → ¬ k ≤ w.heap.size + 1 + 1 := fun k o e he => by have := hfr k o none e; omega
  have hfrw : Fr w.heap.size A2 := hfr.le (by omega)
  have hb3 : Below w2.heap.size w2 (w2.alloc (.cells #[.int .i64 ro, .int .i64 co, .slice A2 n2 c2] 25)) := (by repeat (first | exact Below.refl _ _ | assumption | refine Below.setCell ?_ (by first | omega | (simp; done) | (simp; omega)) _ | refine Below.alloc ?_ (by first | omega | (simp; done) | (simp; omega)) _ | refine Below.drew ?_ | refine Below.drewN' ?_ _ | refine Below.trans ?_ (Below.mono (by assumption) (by first | omega | (simp; done) | (simp; omega)))))
  have hX := Bk.new w2 25 #[.int .i64 ro, .int .i64 co, .slice A2 n2 c2]
  replace hres1 := hres1.below hb3 hres1.lt
  replace hre21 := hre21.below hb3 hre21.lt
  have hB3 := hB2.trans (hb3.mono hB2.size)
  have hpk3 := hpk.step hb3
  have hrd3 := hrd2.below hb3
  clear hrd ho hrd2 hB1 hB2 hpk hfr
  have hgx : w.heap.size + 1 + 1 < w2.heap.size := by omega
  go_wp2_with fail
  clear hb3
  generalize w2.alloc (.cells #[.int .i64 ro, .int .i64 co, .slice A2 n2 c2] 25) = w3 at *
  generalize w2.heap.size = gx at *
  refine (l91Packet_any _ _ _ _ hrd3 (by omega)).mono ?_
  rintro e w4 ⟨x, rfl, hrd4, ho4⟩
  have hxl := hX.lt
  have hl3 := hrd3.lt
  replace hpk3 := (hpk3.but0 (But.of_only (X := fun k => k = w.heap.size + 1 + 1) ho4 rfl) (fun k o e _ he => hfr0 k o e (by omega))).more (B' := w4.heap.size) ho4.size
  have hB4 := hB3.trans (ho4.below (by omega) (by omega))
  replace hres1 := hres1.only ho4 (by first | omega | (simp; done) | (simp; omega))
  replace hre21 := hre21.only ho4 (by first | omega | (simp; done) | (simp; omega))
  replace hX := hX.only ho4 (by first | omega | (simp; done) | (simp; omega))
  have hs4 := ho4.size
  have hl4 := hrd4.lt
  clear hrd3 hB3 ho4
  have hb5 : Below w4.heap.size w4 (w4.alloc (.cells #[.int .i64 x.wi, .int .i64 x.ti, .int .i64 x.la, .int .i64 x.si, .bool x.ky, .bool x.en] 27)) := (by repeat (first | exact Below.refl _ _ | assumption | refine Below.setCell ?_ (by first | omega | (simp; done) | (simp; omega)) _ | refine Below.alloc ?_ (by first | omega | (simp; done) | (simp; omega)) _ | refine Below.drew ?_ | refine Below.drewN' ?_ _ | refine Below.trans ?_ (Below.mono (by assumption) (by first | omega | (simp; done) | (simp; omega)))))
  have hP := Bk.new w4 27 #[.int .i64 x.wi, .int .i64 x.ti, .int .i64 x.la, .int .i64 x.si, .bool x.ky, .bool x.en]
  replace hres1 := hres1.below hb5 hres1.lt
  replace hre21 := hre21.below hb5 hre21.lt
  replace hX := hX.below hb5 hX.lt
  have hB5 := hB4.trans (hb5.mono hB4.size)
  have hfrp : ∀ k o, A2 = some ⟨k, o, none⟩ → 0 < n2 → k ≠ w4.heap.size := fun k o e h0 he => by
    obtain ⟨b', o', e', hb', _⟩ := hpk3.2 h0
    rw [e] at e'
    injection e' with e'
    injection e' with e1 e2
    omega
  have hpk5 := hpk3.step hb5
  have hrd5 := hrd4.below hb5
  have hgp : gx < w4.heap.size := by omega
  clear hpk3 hrd4 hB4 hb5
  have hn80 : (0 : Int) ≤ n2 := Int.natCast_nonneg _
  have hgpl : w4.heap.size < (w4.alloc (.cells #[.int .i64 x.wi, .int .i64 x.ti, .int .i64 x.la, .int .i64 x.si, .bool x.ky, .bool x.en] 27)).heap.size := by simp
  by_cases hn0 : n2 = 0
  · have e0 : decide ((0 : Int) < (n2 : Int)) = false := by simp; omega
    have e0' : decide (0 < n2) = false := by simp; omega
    have e0'' : ¬ (0 < n2) := by omega
    clear hn0
    (try clear hX_c0); (try clear hX_f0)
    (try clear hX_c1); (try clear hX_f1)
    (try clear hX_c2); (try clear hX_f2)
    (try clear hX_lt)
    have hX_lt := hX.lt; (try simp only [World.size_alloc] at hX_lt)
    have hX_c0 := hX.cell 0; have hX_f0 := hX.frozen 0
    have hX_c1 := hX.cell 1; have hX_f1 := hX.frozen 1
    have hX_c2 := hX.cell 2; have hX_f2 := hX.frozen 2
    simp only [List.getElem?_toArray, List.getElem?_cons_zero, List.getElem?_cons_succ] at hX_c0 hX_c1 hX_c2
    go_wp2_with fail
    generalize w4.alloc (.cells #[.int .i64 x.wi, .int .i64 x.ti, .int .i64 x.la, .int .i64 x.si, .bool x.ky, .bool x.en] 27) = w5 at *
    generalize w4.heap.size = gp at *
    (try clear hX_c0); (try clear hX_f0)
    (try clear hX_c1); (try clear hX_f1)
    (try clear hX_c2); (try clear hX_f2)
    (try clear hX_lt)
    have hXl := hX.lt
    have hPl := hP.lt
    have hrl := hres1.lt
    have hrl2 := hre21.lt
    have HPK5 := Lib.hid hpk5
    have HB5 := Lib.hid hB5
    clear hpk5 hB5
    go_wp2_with fail
    refine wp_region_inv (fun n w' => But (fun k => k = w.heap.size ∨ k = w.heap.size + 1) w5 w' ∧ C3 25 w' w.heap.size ∧ C6 27 w' (w.heap.size + 1)) (KpR 25 27 w.heap.size #[.int .i64 ro, .int .i64 co, .slice A2 n2 c2] #[.int .i64 x.wi, .int .i64 x.ti, .int .i64 x.la, .int .i64 x.si, .bool x.ky, .bool x.en]) (IQe 25 27 w.heap.size ro co A2 n2 c2 x) (by kernel_rfl) (by kernel_rfl) (by kernel_rfl) ⟨But.drew (But.refl _ _), ⟨_, _, _, hres1.drew⟩, ⟨_, _, _, _, _, _, hre21.drew⟩⟩ IQe.mono ⟨?_, ?_, ?_, ?_, trivial⟩ ?_
    · intro m y wv hm hb hd
      have hp := hX.but hb.1 (by show ¬ (_ ∨ _); omega)
      (try clear hp_c0); (try clear hp_f0)
      (try clear hp_c1); (try clear hp_f1)
      (try clear hp_c2); (try clear hp_f2)
      (try clear hp_lt)
      have hp_lt := hp.lt; (try simp only [World.size_alloc] at hp_lt)
      have hp_c0 := hp.cell 0; have hp_f0 := hp.frozen 0
      have hp_c1 := hp.cell 1; have hp_f1 := hp.frozen 1
      have hp_c2 := hp.cell 2; have hp_f2 := hp.frozen 2
      simp only [List.getElem?_toArray, List.getElem?_cons_zero, List.getElem?_cons_succ] at hp_c0 hp_c1 hp_c2
      have HB := Lib.hid hb
      clear hd hb
      refine ⟨?_⟩
      simp only [fill, Act.put, List.setIfInBounds_toArray, List.set_cons_zero, List.set_cons_succ]
      go_simp
      exact ⟨⟨id, id⟩, HB.out, rfl⟩
    · intro m y wv hm hb hd
      have hp := hP.but hb.1 (by show ¬ (_ ∨ _); omega)
      (try clear hp_c0); (try clear hp_f0)
      (try clear hp_c1); (try clear hp_f1)
      (try clear hp_c2); (try clear hp_f2)
      (try clear hp_c3); (try clear hp_f3)
      (try clear hp_c4); (try clear hp_f4)
      (try clear hp_c5); (try clear hp_f5)
      (try clear hp_lt)
      have hp_lt := hp.lt; (try simp only [World.size_alloc] at hp_lt)
      have hp_c0 := hp.cell 0; have hp_f0 := hp.frozen 0
      have hp_c1 := hp.cell 1; have hp_f1 := hp.frozen 1
      have hp_c2 := hp.cell 2; have hp_f2 := hp.frozen 2
      have hp_c3 := hp.cell 3; have hp_f3 := hp.frozen 3
      have hp_c4 := hp.cell 4; have hp_f4 := hp.frozen 4
      have hp_c5 := hp.cell 5; have hp_f5 := hp.frozen 5
      simp only [List.getElem?_toArray, List.getElem?_cons_zero, List.getElem?_cons_succ] at hp_c0 hp_c1 hp_c2 hp_c3 hp_c4 hp_c5
      have HB := Lib.hid hb
      clear hd hb
      refine ⟨?_⟩
      simp only [fill, Act.put, List.setIfInBounds_toArray, List.set_cons_zero, List.set_cons_succ]
      go_simp
      exact ⟨⟨id, id⟩, HB.out, rfl⟩
    · intro m y wv hm hb hd
      have d0 := hd { on := 0, ground := .data } (by simp) (by kernel_rfl)
      replace d0 : y 0 = .agg #[.int .i64 ro, .int .i64 co, .slice A2 n2 c2] := d0
      obtain ⟨hb1, ⟨c0, c1, c2', hb2⟩, ⟨k0, k1, k2, k3, k4, k5, hb3⟩⟩ := hb
      have HB1 := Lib.hid (((hb1.setCell (p := ⟨w.heap.size, 0, none⟩) (.inl (.inl rfl)) (.int .i64 ro)).setCell (p := ⟨w.heap.size, 1, none⟩) (.inl (.inl rfl)) (.int .i64 co)).setCell (p := ⟨w.heap.size, 2, none⟩) (.inl (.inl rfl)) (.slice A2 n2 c2))
      have HB2 := Lib.hid (show Bk (((wv.setCell ⟨w.heap.size, 0, none⟩ (.int .i64 ro)).setCell ⟨w.heap.size, 1, none⟩ (.int .i64 co)).setCell ⟨w.heap.size, 2, none⟩ (.slice A2 n2 c2)) w.heap.size 25 #[.int .i64 ro, .int .i64 co, .slice A2 n2 c2] by have := ((hb2.set_ 0 (.int .i64 ro)).set_ 1 (.int .i64 co)).set_ 2 (.slice A2 n2 c2); simpa using this)
      have hO : Only w.heap.size wv (((wv.setCell ⟨w.heap.size, 0, none⟩ (.int .i64 ro)).setCell ⟨w.heap.size, 1, none⟩ (.int .i64 co)).setCell ⟨w.heap.size, 2, none⟩ (.slice A2 n2 c2)) := (((Only.refl w.heap.size wv).setCell (p := ⟨w.heap.size, 0, none⟩) (.inl rfl) _).setCell (p := ⟨w.heap.size, 1, none⟩) (.inl rfl) _).setCell (p := ⟨w.heap.size, 2, none⟩) (.inl rfl) _
      have HB3 := Lib.hid (hb3.only hO (by omega))
      have HR := Lib.hid (fun h : Bk wv (w.heap.size + 1) 27 #[.int .i64 x.wi, .int .i64 x.ti, .int .i64 x.la, .int .i64 x.si, .bool x.ky, .bool x.en] => h.only hO (by omega))
      (try clear hb2_c0); (try clear hb2_f0)
      (try clear hb2_c1); (try clear hb2_f1)
      (try clear hb2_c2); (try clear hb2_f2)
      (try clear hb2_lt)
      have hb2_lt := hb2.lt; (try simp only [World.size_alloc] at hb2_lt)
      have hb2_c0 := hb2.cell 0; have hb2_f0 := hb2.frozen 0
      have hb2_c1 := hb2.cell 1; have hb2_f1 := hb2.frozen 1
      have hb2_c2 := hb2.cell 2; have hb2_f2 := hb2.frozen 2
      simp only [List.getElem?_toArray, List.getElem?_cons_zero, List.getElem?_cons_succ] at hb2_c0 hb2_c1 hb2_c2
      clear hd hb1 hO hb3
      refine ⟨?_⟩
      simp only [fill, Act.put, List.setIfInBounds_toArray, List.set_cons_zero, List.set_cons_succ]
      go_simp
      exact ⟨⟨fun _ => HB2.out, HR.out⟩, ⟨HB1.out, ⟨_, _, _, HB2.out⟩, ⟨_, _, _, _, _, _, HB3.out⟩⟩, undef, HB2.out⟩
    · intro m y wv hm hb hd
      have d0 := hd { on := 1, ground := .data } (by simp) (by kernel_rfl)
      replace d0 : y 1 = .agg #[.int .i64 x.wi, .int .i64 x.ti, .int .i64 x.la, .int .i64 x.si, .bool x.ky, .bool x.en] := d0
      obtain ⟨hb1, ⟨c0, c1, c2', hb2⟩, ⟨k0, k1, k2, k3, k4, k5, hb3⟩⟩ := hb
      have HB1 := Lib.hid ((((((hb1.setCell (p := ⟨w.heap.size + 1, 0, none⟩) (.inl (.inr rfl)) (.int .i64 x.wi)).setCell (p := ⟨w.heap.size + 1, 1, none⟩) (.inl (.inr rfl)) (.int .i64 x.ti)).setCell (p := ⟨w.heap.size + 1, 2, none⟩) (.inl (.inr rfl)) (.int .i64 x.la)).setCell (p := ⟨w.heap.size + 1, 3, none⟩) (.inl (.inr rfl)) (.int .i64 x.si)).setCell (p := ⟨w.heap.size + 1, 4, none⟩) (.inl (.inr rfl)) (.bool x.ky)).setCell (p := ⟨w.heap.size + 1, 5, none⟩) (.inl (.inr rfl)) (.bool x.en))
      have HB3 := Lib.hid (show Bk ((((((wv.setCell ⟨w.heap.size + 1, 0, none⟩ (.int .i64 x.wi)).setCell ⟨w.heap.size + 1, 1, none⟩ (.int .i64 x.ti)).setCell ⟨w.heap.size + 1, 2, none⟩ (.int .i64 x.la)).setCell ⟨w.heap.size + 1, 3, none⟩ (.int .i64 x.si)).setCell ⟨w.heap.size + 1, 4, none⟩ (.bool x.ky)).setCell ⟨w.heap.size + 1, 5, none⟩ (.bool x.en)) (w.heap.size + 1) 27 #[.int .i64 x.wi, .int .i64 x.ti, .int .i64 x.la, .int .i64 x.si, .bool x.ky, .bool x.en] by have := (((((hb3.set_ 0 (.int .i64 x.wi)).set_ 1 (.int .i64 x.ti)).set_ 2 (.int .i64 x.la)).set_ 3 (.int .i64 x.si)).set_ 4 (.bool x.ky)).set_ 5 (.bool x.en); simpa using this)
      have hO : Only (w.heap.size + 1) wv ((((((wv.setCell ⟨w.heap.size + 1, 0, none⟩ (.int .i64 x.wi)).setCell ⟨w.heap.size + 1, 1, none⟩ (.int .i64 x.ti)).setCell ⟨w.heap.size + 1, 2, none⟩ (.int .i64 x.la)).setCell ⟨w.heap.size + 1, 3, none⟩ (.int .i64 x.si)).setCell ⟨w.heap.size + 1, 4, none⟩ (.bool x.ky)).setCell ⟨w.heap.size + 1, 5, none⟩ (.bool x.en)) := ((((((Only.refl (w.heap.size + 1) wv).setCell (p := ⟨w.heap.size + 1, 0, none⟩) (.inl rfl) _).setCell (p := ⟨w.heap.size + 1, 1, none⟩) (.inl rfl) _).setCell (p := ⟨w.heap.size + 1, 2, none⟩) (.inl rfl) _).setCell (p := ⟨w.heap.size + 1, 3, none⟩) (.inl rfl) _).setCell (p := ⟨w.heap.size + 1, 4, none⟩) (.inl rfl) _).setCell (p := ⟨w.heap.size + 1, 5, none⟩) (.inl rfl) _
      have HB2 := Lib.hid (hb2.only hO (by omega))
      have HR := Lib.hid (fun h : Bk wv w.heap.size 25 #[.int .i64 ro, .int .i64 co, .slice A2 n2 c2] => h.only hO (by omega))
      (try clear hb3_c0); (try clear hb3_f0)
      (try clear hb3_c1); (try clear hb3_f1)
      (try clear hb3_c2); (try clear hb3_f2)
      (try clear hb3_c3); (try clear hb3_f3)
      (try clear hb3_c4); (try clear hb3_f4)
      (try clear hb3_c5); (try clear hb3_f5)
      (try clear hb3_lt)
      have hb3_lt := hb3.lt; (try simp only [World.size_alloc] at hb3_lt)
      have hb3_c0 := hb3.cell 0; have hb3_f0 := hb3.frozen 0
      have hb3_c1 := hb3.cell 1; have hb3_f1 := hb3.frozen 1
      have hb3_c2 := hb3.cell 2; have hb3_f2 := hb3.frozen 2
      have hb3_c3 := hb3.cell 3; have hb3_f3 := hb3.frozen 3
      have hb3_c4 := hb3.cell 4; have hb3_f4 := hb3.frozen 4
      have hb3_c5 := hb3.cell 5; have hb3_f5 := hb3.frozen 5
      simp only [List.getElem?_toArray, List.getElem?_cons_zero, List.getElem?_cons_succ] at hb3_c0 hb3_c1 hb3_c2 hb3_c3 hb3_c4 hb3_c5
      clear hd hb1 hO hb2
      refine ⟨?_⟩
      simp only [fill, Act.put, List.setIfInBounds_toArray, List.set_cons_zero, List.set_cons_succ]
      go_simp
      exact ⟨⟨HR.out, fun _ => HB3.out⟩, ⟨HB1.out, ⟨_, _, _, HB2.out⟩, ⟨_, _, _, _, _, _, HB3.out⟩⟩, undef, HB3.out⟩
    · intro y wv ⟨hbt, _, _⟩ hI
      have hR4 : Bk wv w.heap.size 25 #[.int .i64 ro, .int .i64 co, .slice A2 n2 c2] := hI 2 (by decide)
      have hS4 : Bk wv (w.heap.size + 1) 27 #[.int .i64 x.wi, .int .i64 x.ti, .int .i64 x.la, .int .i64 x.si, .bool x.ky, .bool x.en] := hI 3 (by decide)
      have HF := Lib.hid ((HPK5.out.but0 hbt (fun k o e _ he => hfr0 k o e (by omega))).more (B' := wv.heap.size) hbt.size)
      have HBF := Lib.hid (HB5.out.trans (hbt.below (B := w.heap.size) (fun k hk => by omega) HB5.out.size))
      clear hI hbt
      (try clear hR4_c0); (try clear hR4_f0)
      (try clear hR4_c1); (try clear hR4_f1)
      (try clear hR4_c2); (try clear hR4_f2)
      (try clear hR4_lt)
      have hR4_lt := hR4.lt; (try simp only [World.size_alloc] at hR4_lt)
      have hR4_c0 := hR4.cell 0; have hR4_f0 := hR4.frozen 0
      have hR4_c1 := hR4.cell 1; have hR4_f1 := hR4.frozen 1
      have hR4_c2 := hR4.cell 2; have hR4_f2 := hR4.frozen 2
      simp only [List.getElem?_toArray, List.getElem?_cons_zero, List.getElem?_cons_succ] at hR4_c0 hR4_c1 hR4_c2
      (try clear hS4_c0); (try clear hS4_f0)
      (try clear hS4_c1); (try clear hS4_f1)
      (try clear hS4_c2); (try clear hS4_f2)
      (try clear hS4_c3); (try clear hS4_f3)
      (try clear hS4_c4); (try clear hS4_f4)
      (try clear hS4_c5); (try clear hS4_f5)
      (try clear hS4_lt)
      have hS4_lt := hS4.lt; (try simp only [World.size_alloc] at hS4_lt)
      have hS4_c0 := hS4.cell 0; have hS4_f0 := hS4.frozen 0
      have hS4_c1 := hS4.cell 1; have hS4_f1 := hS4.frozen 1
      have hS4_c2 := hS4.cell 2; have hS4_f2 := hS4.frozen 2
      have hS4_c3 := hS4.cell 3; have hS4_f3 := hS4.frozen 3
      have hS4_c4 := hS4.cell 4; have hS4_f4 := hS4.frozen 4
      have hS4_c5 := hS4.cell 5; have hS4_f5 := hS4.frozen 5
      simp only [List.getElem?_toArray, List.getElem?_cons_zero, List.getElem?_cons_succ] at hS4_c0 hS4_c1 hS4_c2 hS4_c3 hS4_c4 hS4_c5
      refine ⟨?_⟩
      simp only [fill, Act.put, List.setIfInBounds_toArray, List.set_cons_zero, List.set_cons_succ]
      go_wp2
      refine ⟨rfl, ?_⟩
      apply Exists.intro
      apply And.intro
      · simp [results, Try.results7, go_sem, hR4_c0, hR4_c1, hR4_c2, hS4_c0, hS4_c1, hS4_c2, hS4_c3, hS4_c4, hS4_c5, hR4_lt, hS4_lt]; exact rfl
      · exact ⟨_, _, _, x, rfl, ⟨ro, co, A2, n2, c2, xs, rfl, rfl, rfl, hn8, hnc2, hc2, hco0, hco1, HF.out, hfrw⟩, HBF.out⟩
  · have e0 : decide ((0 : Int) < (n2 : Int)) = true := by simp; omega
    have hn01 : 1 ≤ n2 := by omega
    clear hn0
    (try clear hX_c0); (try clear hX_f0)
    (try clear hX_c1); (try clear hX_f1)
    (try clear hX_c2); (try clear hX_f2)
    (try clear hX_lt)
    have hX_lt := hX.lt; (try simp only [World.size_alloc] at hX_lt)
    have hX_c0 := hX.cell 0; have hX_f0 := hX.frozen 0
    have hX_c1 := hX.cell 1; have hX_f1 := hX.frozen 1
    have hX_c2 := hX.cell 2; have hX_f2 := hX.frozen 2
    simp only [List.getElem?_toArray, List.getElem?_cons_zero, List.getElem?_cons_succ] at hX_c0 hX_c1 hX_c2
    go_wp2_with fail
    (try clear hX_c0); (try clear hX_f0)
    (try clear hX_c1); (try clear hX_f1)
    (try clear hX_c2); (try clear hX_f2)
    (try clear hX_lt)
    generalize w4.alloc (.cells #[.int .i64 x.wi, .int .i64 x.ti, .int .i64 x.la, .int .i64 x.si, .bool x.ky, .bool x.en] 27) = w5 at *
    generalize w4.heap.size = gp at *
    go_wp2_with fail
    refine (pick_any _ _ _ _ _ hrd5 (by omega) (by omega)).mono ?_
    rintro e w_v ⟨v, rfl, v_0, v_1, hrd_v, ho_v, hsz_v⟩
    have v_u := v_1 (by omega)
    have hlt_v := hrd_v.lt
    clear v_1
    have hlv := hrd_v.lt
    replace hres1 := hres1.only ho_v (by omega)
    replace hre21 := hre21.only ho_v (by omega)
    replace hX := hX.only ho_v (by omega)
    replace hP := hP.only ho_v (by omega)
    replace hpk5 := (hpk5.but0 (But.of_only (X := fun k => k = w.heap.size + 1 + 1) ho_v rfl) (fun k o e _ he => hfr0 k o e (by omega))).more (B' := w_v.heap.size) ho_v.size
    replace hB5 := hB5.trans (ho_v.below (by omega) (by omega))
    have hgpl2 : gp < w_v.heap.size := hP.lt
    clear hgpl ho_v hsz_v hrd5
    by_cases hv0 : v = 0
    · subst hv0
      have e2 : decide ((0 : Int) < 0) = false := rfl
      have hXl := hX.lt
      have hPl := hP.lt
      have hrl := hres1.lt
      have hrl2 := hre21.lt
      have HPK5 := Lib.hid hpk5
      have HB5 := Lib.hid hB5
      clear hpk5 hB5
      go_wp2_with fail
      refine wp_region_inv (fun n w' => But (fun k => k = w.heap.size ∨ k = w.heap.size + 1) w_v w' ∧ C3 25 w' w.heap.size ∧ C6 27 w' (w.heap.size + 1)) (KpR 25 27 w.heap.size #[.int .i64 ro, .int .i64 co, .slice A2 n2 c2] #[.int .i64 x.wi, .int .i64 x.ti, .int .i64 x.la, .int .i64 x.si, .bool x.ky, .bool x.en]) (IQe 25 27 w.heap.size ro co A2 n2 c2 x) (by kernel_rfl) (by kernel_rfl) (by kernel_rfl) ⟨But.drew (But.refl _ _), ⟨_, _, _, hres1.drew⟩, ⟨_, _, _, _, _, _, hre21.drew⟩⟩ IQe.mono ⟨?_, ?_, ?_, ?_, trivial⟩ ?_
      · intro m y wv hm hb hd
        have hp := hX.but hb.1 (by show ¬ (_ ∨ _); omega)
        (try clear hp_c0); (try clear hp_f0)
        (try clear hp_c1); (try clear hp_f1)
        (try clear hp_c2); (try clear hp_f2)
        (try clear hp_lt)
        have hp_lt := hp.lt; (try simp only [World.size_alloc] at hp_lt)
        have hp_c0 := hp.cell 0; have hp_f0 := hp.frozen 0
        have hp_c1 := hp.cell 1; have hp_f1 := hp.frozen 1
        have hp_c2 := hp.cell 2; have hp_f2 := hp.frozen 2
        simp only [List.getElem?_toArray, List.getElem?_cons_zero, List.getElem?_cons_succ] at hp_c0 hp_c1 hp_c2
        have HB := Lib.hid hb
        clear hd hb
        refine ⟨?_⟩
        simp only [fill, Act.put, List.setIfInBounds_toArray, List.set_cons_zero, List.set_cons_succ]
        go_simp
        exact ⟨⟨id, id⟩, HB.out, rfl⟩
      · intro m y wv hm hb hd
        have hp := hP.but hb.1 (by show ¬ (_ ∨ _); omega)
        (try clear hp_c0); (try clear hp_f0)
        (try clear hp_c1); (try clear hp_f1)
        (try clear hp_c2); (try clear hp_f2)
        (try clear hp_c3); (try clear hp_f3)
        (try clear hp_c4); (try clear hp_f4)
        (try clear hp_c5); (try clear hp_f5)
        (try clear hp_lt)
        have hp_lt := hp.lt; (try simp only [World.size_alloc] at hp_lt)
        have hp_c0 := hp.cell 0; have hp_f0 := hp.frozen 0
        have hp_c1 := hp.cell 1; have hp_f1 := hp.frozen 1
        have hp_c2 := hp.cell 2; have hp_f2 := hp.frozen 2
        have hp_c3 := hp.cell 3; have hp_f3 := hp.frozen 3
        have hp_c4 := hp.cell 4; have hp_f4 := hp.frozen 4
        have hp_c5 := hp.cell 5; have hp_f5 := hp.frozen 5
        simp only [List.getElem?_toArray, List.getElem?_cons_zero, List.getElem?_cons_succ] at hp_c0 hp_c1 hp_c2 hp_c3 hp_c4 hp_c5
        have HB := Lib.hid hb
        clear hd hb
        refine ⟨?_⟩
        simp only [fill, Act.put, List.setIfInBounds_toArray, List.set_cons_zero, List.set_cons_succ]
        go_simp
        exact ⟨⟨id, id⟩, HB.out, rfl⟩
      · intro m y wv hm hb hd
        have d0 := hd { on := 0, ground := .data } (by simp) (by kernel_rfl)
        replace d0 : y 0 = .agg #[.int .i64 ro, .int .i64 co, .slice A2 n2 c2] := d0
        obtain ⟨hb1, ⟨c0, c1, c2', hb2⟩, ⟨k0, k1, k2, k3, k4, k5, hb3⟩⟩ := hb
        have HB1 := Lib.hid (((hb1.setCell (p := ⟨w.heap.size, 0, none⟩) (.inl (.inl rfl)) (.int .i64 ro)).setCell (p := ⟨w.heap.size, 1, none⟩) (.inl (.inl rfl)) (.int .i64 co)).setCell (p := ⟨w.heap.size, 2, none⟩) (.inl (.inl rfl)) (.slice A2 n2 c2))
        have HB2 := Lib.hid (show Bk (((wv.setCell ⟨w.heap.size, 0, none⟩ (.int .i64 ro)).setCell ⟨w.heap.size, 1, none⟩ (.int .i64 co)).setCell ⟨w.heap.size, 2, none⟩ (.slice A2 n2 c2)) w.heap.size 25 #[.int .i64 ro, .int .i64 co, .slice A2 n2 c2] by have := ((hb2.set_ 0 (.int .i64 ro)).set_ 1 (.int .i64 co)).set_ 2 (.slice A2 n2 c2); simpa using this)
        have hO : Only w.heap.size wv (((wv.setCell ⟨w.heap.size, 0, none⟩ (.int .i64 ro)).setCell ⟨w.heap.size, 1, none⟩ (.int .i64 co)).setCell ⟨w.heap.size, 2, none⟩ (.slice A2 n2 c2)) := (((Only.refl w.heap.size wv).setCell (p := ⟨w.heap.size, 0, none⟩) (.inl rfl) _).setCell (p := ⟨w.heap.size, 1, none⟩) (.inl rfl) _).setCell (p := ⟨w.heap.size, 2, none⟩) (.inl rfl) _
        have HB3 := Lib.hid (hb3.only hO (by omega))
        have HR := Lib.hid (fun h : Bk wv (w.heap.size + 1) 27 #[.int .i64 x.wi, .int .i64 x.ti, .int .i64 x.la, .int .i64 x.si, .bool x.ky, .bool x.en] => h.only hO (by omega))
        (try clear hb2_c0); (try clear hb2_f0)
        (try clear hb2_c1); (try clear hb2_f1)
        (try clear hb2_c2); (try clear hb2_f2)
        (try clear hb2_lt)
        have hb2_lt := hb2.lt; (try simp only [World.size_alloc] at hb2_lt)
        have hb2_c0 := hb2.cell 0; have hb2_f0 := hb2.frozen 0
        have hb2_c1 := hb2.cell 1; have hb2_f1 := hb2.frozen 1
        have hb2_c2 := hb2.cell 2; have hb2_f2 := hb2.frozen 2
        simp only [List.getElem?_toArray, List.getElem?_cons_zero, List.getElem?_cons_succ] at hb2_c0 hb2_c1 hb2_c2
        clear hd hb1 hO hb3
        refine ⟨?_⟩
        simp only [fill, Act.put, List.setIfInBounds_toArray, List.set_cons_zero, List.set_cons_succ]
        go_simp
        exact ⟨⟨fun _ => HB2.out, HR.out⟩, ⟨HB1.out, ⟨_, _, _, HB2.out⟩, ⟨_, _, _, _, _, _, HB3.out⟩⟩, undef, HB2.out⟩
      · intro m y wv hm hb hd
        have d0 := hd { on := 1, ground := .data } (by simp) (by kernel_rfl)
        replace d0 : y 1 = .agg #[.int .i64 x.wi, .int .i64 x.ti, .int .i64 x.la, .int .i64 x.si, .bool x.ky, .bool x.en] := d0
        obtain ⟨hb1, ⟨c0, c1, c2', hb2⟩, ⟨k0, k1, k2, k3, k4, k5, hb3⟩⟩ := hb
        have HB1 := Lib.hid ((((((hb1.setCell (p := ⟨w.heap.size + 1, 0, none⟩) (.inl (.inr rfl)) (.int .i64 x.wi)).setCell (p := ⟨w.heap.size + 1, 1, none⟩) (.inl (.inr rfl)) (.int .i64 x.ti)).setCell (p := ⟨w.heap.size + 1, 2, none⟩) (.inl (.inr rfl)) (.int .i64 x.la)).setCell (p := ⟨w.heap.size + 1, 3, none⟩) (.inl (.inr rfl)) (.int .i64 x.si)).setCell (p := ⟨w.heap.size + 1, 4, none⟩) (.inl (.inr rfl)) (.bool x.ky)).setCell (p := ⟨w.heap.size + 1, 5, none⟩) (.inl (.inr rfl)) (.bool x.en))
        have HB3 := Lib.hid (show Bk ((((((wv.setCell ⟨w.heap.size + 1, 0, none⟩ (.int .i64 x.wi)).setCell ⟨w.heap.size + 1, 1, none⟩ (.int .i64 x.ti)).setCell ⟨w.heap.size + 1, 2, none⟩ (.int .i64 x.la)).setCell ⟨w.heap.size + 1, 3, none⟩ (.int .i64 x.si)).setCell ⟨w.heap.size + 1, 4, none⟩ (.bool x.ky)).setCell ⟨w.heap.size + 1, 5, none⟩ (.bool x.en)) (w.heap.size + 1) 27 #[.int .i64 x.wi, .int .i64 x.ti, .int .i64 x.la, .int .i64 x.si, .bool x.ky, .bool x.en] by have := (((((hb3.set_ 0 (.int .i64 x.wi)).set_ 1 (.int .i64 x.ti)).set_ 2 (.int .i64 x.la)).set_ 3 (.int .i64 x.si)).set_ 4 (.bool x.ky)).set_ 5 (.bool x.en); simpa using this)
        have hO : Only (w.heap.size + 1) wv ((((((wv.setCell ⟨w.heap.size + 1, 0, none⟩ (.int .i64 x.wi)).setCell ⟨w.heap.size + 1, 1, none⟩ (.int .i64 x.ti)).setCell ⟨w.heap.size + 1, 2, none⟩ (.int .i64 x.la)).setCell ⟨w.heap.size + 1, 3, none⟩ (.int .i64 x.si)).setCell ⟨w.heap.size + 1, 4, none⟩ (.bool x.ky)).setCell ⟨w.heap.size + 1, 5, none⟩ (.bool x.en)) := ((((((Only.refl (w.heap.size + 1) wv).setCell (p := ⟨w.heap.size + 1, 0, none⟩) (.inl rfl) _).setCell (p := ⟨w.heap.size + 1, 1, none⟩) (.inl rfl) _).setCell (p := ⟨w.heap.size + 1, 2, none⟩) (.inl rfl) _).setCell (p := ⟨w.heap.size + 1, 3, none⟩) (.inl rfl) _).setCell (p := ⟨w.heap.size + 1, 4, none⟩) (.inl rfl) _).setCell (p := ⟨w.heap.size + 1, 5, none⟩) (.inl rfl) _
        have HB2 := Lib.hid (hb2.only hO (by omega))
        have HR := Lib.hid (fun h : Bk wv w.heap.size 25 #[.int .i64 ro, .int .i64 co, .slice A2 n2 c2] => h.only hO (by omega))
        (try clear hb3_c0); (try clear hb3_f0)
        (try clear hb3_c1); (try clear hb3_f1)
        (try clear hb3_c2); (try clear hb3_f2)
        (try clear hb3_c3); (try clear hb3_f3)
        (try clear hb3_c4); (try clear hb3_f4)
        (try clear hb3_c5); (try clear hb3_f5)
        (try clear hb3_lt)
        have hb3_lt := hb3.lt; (try simp only [World.size_alloc] at hb3_lt)
        have hb3_c0 := hb3.cell 0; have hb3_f0 := hb3.frozen 0
        have hb3_c1 := hb3.cell 1; have hb3_f1 := hb3.frozen 1
        have hb3_c2 := hb3.cell 2; have hb3_f2 := hb3.frozen 2
        have hb3_c3 := hb3.cell 3; have hb3_f3 := hb3.frozen 3
        have hb3_c4 := hb3.cell 4; have hb3_f4 := hb3.frozen 4
        have hb3_c5 := hb3.cell 5; have hb3_f5 := hb3.frozen 5
        simp only [List.getElem?_toArray, List.getElem?_cons_zero, List.getElem?_cons_succ] at hb3_c0 hb3_c1 hb3_c2 hb3_c3 hb3_c4 hb3_c5
        clear hd hb1 hO hb2
        refine ⟨?_⟩
        simp only [fill, Act.put, List.setIfInBounds_toArray, List.set_cons_zero, List.set_cons_succ]
        go_simp
        exact ⟨⟨HR.out, fun _ => HB3.out⟩, ⟨HB1.out, ⟨_, _, _, HB2.out⟩, ⟨_, _, _, _, _, _, HB3.out⟩⟩, undef, HB3.out⟩
      · intro y wv ⟨hbt, _, _⟩ hI
        have hR4 : Bk wv w.heap.size 25 #[.int .i64 ro, .int .i64 co, .slice A2 n2 c2] := hI 2 (by decide)
        have hS4 : Bk wv (w.heap.size + 1) 27 #[.int .i64 x.wi, .int .i64 x.ti, .int .i64 x.la, .int .i64 x.si, .bool x.ky, .bool x.en] := hI 3 (by decide)
        have HF := Lib.hid ((HPK5.out.but0 hbt (fun k o e _ he => hfr0 k o e (by omega))).more (B' := wv.heap.size) hbt.size)
        have HBF := Lib.hid (HB5.out.trans (hbt.below (B := w.heap.size) (fun k hk => by omega) HB5.out.size))
        clear hI hbt
        (try clear hR4_c0); (try clear hR4_f0)
        (try clear hR4_c1); (try clear hR4_f1)
        (try clear hR4_c2); (try clear hR4_f2)
        (try clear hR4_lt)
        have hR4_lt := hR4.lt; (try simp only [World.size_alloc] at hR4_lt)
        have hR4_c0 := hR4.cell 0; have hR4_f0 := hR4.frozen 0
        have hR4_c1 := hR4.cell 1; have hR4_f1 := hR4.frozen 1
        have hR4_c2 := hR4.cell 2; have hR4_f2 := hR4.frozen 2
        simp only [List.getElem?_toArray, List.getElem?_cons_zero, List.getElem?_cons_succ] at hR4_c0 hR4_c1 hR4_c2
        (try clear hS4_c0); (try clear hS4_f0)
        (try clear hS4_c1); (try clear hS4_f1)
        (try clear hS4_c2); (try clear hS4_f2)
        (try clear hS4_c3); (try clear hS4_f3)
        (try clear hS4_c4); (try clear hS4_f4)
        (try clear hS4_c5); (try clear hS4_f5)
        (try clear hS4_lt)
        have hS4_lt := hS4.lt; (try simp only [World.size_alloc] at hS4_lt)
        have hS4_c0 := hS4.cell 0; have hS4_f0 := hS4.frozen 0
        have hS4_c1 := hS4.cell 1; have hS4_f1 := hS4.frozen 1
        have hS4_c2 := hS4.cell 2; have hS4_f2 := hS4.frozen 2
        have hS4_c3 := hS4.cell 3; have hS4_f3 := hS4.frozen 3
        have hS4_c4 := hS4.cell 4; have hS4_f4 := hS4.frozen 4
        have hS4_c5 := hS4.cell 5; have hS4_f5 := hS4.frozen 5
        simp only [List.getElem?_toArray, List.getElem?_cons_zero, List.getElem?_cons_succ] at hS4_c0 hS4_c1 hS4_c2 hS4_c3 hS4_c4 hS4_c5
        refine ⟨?_⟩
        simp only [fill, Act.put, List.setIfInBounds_toArray, List.set_cons_zero, List.set_cons_succ]
        go_wp2
        refine ⟨rfl, ?_⟩
        apply Exists.intro
        apply And.intro
        · simp [results, Try.results7, go_sem, hR4_c0, hR4_c1, hR4_c2, hS4_c0, hS4_c1, hS4_c2, hS4_c3, hS4_c4, hS4_c5, hR4_lt, hS4_lt]; exact rfl
        · exact ⟨_, _, _, x, rfl, ⟨ro, co, A2, n2, c2, xs, rfl, rfl, rfl, hn8, hnc2, hc2, hco0, hco1, HF.out, hfrw⟩, HBF.out⟩
    · have e2 : decide (0 < v) = true := by simp; omega
      obtain ⟨q, hq⟩ : ∃ q, xs[n2 - 1]? = some q := ⟨_, List.getElem?_eq_getElem (by have := hpk5.len; omega)⟩
      obtain ⟨b', off', rfl, hb', hcell⟩ := hpk5.addr (by omega)
      obtain ⟨q0, q1, q2, q3, q4, q5⟩ := hcell (n2 - 1) q hq
      have hix : ((n2 : Int) - 1).toNat = n2 - 1 := by omega
      have hix2 : (n2 : Int) - 1 = ((n2 - 1 : Nat) : Int) := by omega
      have hi0 : (0 : Int) ≤ (n2 : Int) - 1 := by omega
      have hi1 : (n2 : Int) - 1 < n2 := by omega
      have wr1 : IntKind.i64.wrap ((n2 : Int) - 1) = (n2 : Int) - 1 := by rw [IntKind.wrap_i64]; omega
      clear hcell hq
      (try clear hX_c0); (try clear hX_f0)
      (try clear hX_c1); (try clear hX_f1)
      (try clear hX_c2); (try clear hX_f2)
      (try clear hX_lt)
      have hX_lt := hX.lt; (try simp only [World.size_alloc] at hX_lt)
      have hX_c0 := hX.cell 0; have hX_f0 := hX.frozen 0
      have hX_c1 := hX.cell 1; have hX_f1 := hX.frozen 1
      have hX_c2 := hX.cell 2; have hX_f2 := hX.frozen 2
      simp only [List.getElem?_toArray, List.getElem?_cons_zero, List.getElem?_cons_succ] at hX_c0 hX_c1 hX_c2
      go_wp2_with fail
      (try clear hX_c0); (try clear hX_f0)
      (try clear hX_c1); (try clear hX_f1)
      (try clear hX_c2); (try clear hX_f2)
      (try clear hX_lt)
      have hb6 : Below w_v.heap.size w_v (w_v.alloc (.cells #[.int .i64 q.wi, .int .i64 q.ti, .int .i64 q.la, .int .i64 q.si, .bool q.ky, .bool q.en] 27)) := (by repeat (first | exact Below.refl _ _ | assumption | refine Below.setCell ?_ (by first | omega | (simp; done) | (simp; omega)) _ | refine Below.alloc ?_ (by first | omega | (simp; done) | (simp; omega)) _ | refine Below.drew ?_ | refine Below.drewN' ?_ _ | refine Below.trans ?_ (Below.mono (by assumption) (by first | omega | (simp; done) | (simp; omega)))))
      have hQ := Bk.new w_v 27 #[.int .i64 q.wi, .int .i64 q.ti, .int .i64 q.la, .int .i64 q.si, .bool q.ky, .bool q.en]
      replace hres1 := hres1.below hb6 hres1.lt
      replace hre21 := hre21.below hb6 hre21.lt
      replace hX := hX.below hb6 hX.lt
      have hPP : PkBk 27 (w_v.alloc (.cells #[.int .i64 q.wi, .int .i64 q.ti, .int .i64 q.la, .int .i64 q.si, .bool q.ky, .bool q.en] 27)) gp := ⟨x, hP.below hb6 hP.lt⟩
      replace hB5 := hB5.trans (hb6.mono hB5.size)
      replace hpk5 := hpk5.step hb6
      have hrd5 := hrd_v.below hb6
      clear hb6 hrd_v hP q0 q1 q2 q3 q4 q5
      generalize w_v.alloc (.cells #[.int .i64 q.wi, .int .i64 q.ti, .int .i64 q.la, .int .i64 q.si, .bool q.ky, .bool q.en] 27) = w6 at *
      generalize w_v.heap.size = gq at *
      generalize (some ⟨b', off', none⟩ : Option Addr) = A2 at *
      obtain ⟨K5, hK5⟩ : ∃ K5, K5 = 0 + 3000 + 8 + 1 := ⟨_, rfl⟩
      rw [← hK5] at hrd5
      go_wp2_with fail
      refine wp_region_inv (fun n w' => Rd w' (w.heap.size + 1 + 1) (w.heap.size + 1 + 1) (K5 + n) ∧ But (fun k => k = w.heap.size + 1 + 1 ∨ k = gp) w6 w' ∧ PkBk 27 w' gp) (fun _ _ => True) (IQa (w.heap.size + 1 + 1) gp gq) (by kernel_rfl) (by kernel_rfl) (by kernel_rfl) ⟨Rd.drew hrd5, But.drew (But.refl _ _), hPP.drew_⟩ IQa.mono ⟨?_, ?_, ?_, ?_, ?_, ?_, ?_, trivial⟩ ?_
      · intro m y wv hm hb hd
        have HB := Lib.hid hb
        clear hd hb
        refine ⟨?_⟩
        simp only [fill, Act.put, List.setIfInBounds_toArray, List.set_cons_zero, List.set_cons_succ]
        go_simp
        exact ⟨⟨HB.out.1.more (by omega), HB.out.2⟩, rfl⟩
      · intro m y wv hm hb hd
        have d0 := hd { on := 0, ground := .data } (by simp) (by kernel_rfl)
        replace d0 : y 0 = .pointer (some ⟨gq, 0, none⟩) := d0
        have hp := hQ.but hb.2.1 (by show ¬ (_ ∨ _); omega)
        (try clear hp_c0); (try clear hp_f0)
        (try clear hp_c1); (try clear hp_f1)
        (try clear hp_c2); (try clear hp_f2)
        (try clear hp_c3); (try clear hp_f3)
        (try clear hp_c4); (try clear hp_f4)
        (try clear hp_c5); (try clear hp_f5)
        (try clear hp_lt)
        have hp_lt := hp.lt; (try simp only [World.size_alloc] at hp_lt)
        have hp_c0 := hp.cell 0; have hp_f0 := hp.frozen 0
        have hp_c1 := hp.cell 1; have hp_f1 := hp.frozen 1
        have hp_c2 := hp.cell 2; have hp_f2 := hp.frozen 2
        have hp_c3 := hp.cell 3; have hp_f3 := hp.frozen 3
        have hp_c4 := hp.cell 4; have hp_f4 := hp.frozen 4
        have hp_c5 := hp.cell 5; have hp_f5 := hp.frozen 5
        simp only [List.getElem?_toArray, List.getElem?_cons_zero, List.getElem?_cons_succ] at hp_c0 hp_c1 hp_c2 hp_c3 hp_c4 hp_c5
        have HB := Lib.hid hb
        clear hd hb
        refine ⟨?_⟩
        simp only [fill, Act.put, List.setIfInBounds_toArray, List.set_cons_zero, List.set_cons_succ]
        go_simp
        exact ⟨⟨HB.out.1.more (by omega), HB.out.2⟩, _, rfl⟩
      · intro m y wv hm hb hd
        have HB := Lib.hid hb
        clear hd hb
        refine ⟨?_⟩
        simp only [fill, Act.put, List.setIfInBounds_toArray, List.set_cons_zero, List.set_cons_succ]
        go_simp
        exact ⟨⟨HB.out.1.more (by omega), HB.out.2⟩, rfl⟩
      · intro m y wv hm hb hd
        have d0 := hd { on := 2, ground := .data } (by simp) (by kernel_rfl)
        replace d0 : y 2 = .pointer (some ⟨w.heap.size + 1 + 1, 0, none⟩) := d0
        obtain ⟨hb1, hb2, hb3⟩ := hb
        replace hm : m < 7 := hm
        have HB2 := Lib.hid hb2
        have HB3 := Lib.hid hb3
        clear hd hb2 hb3
        refine ⟨?_⟩
        simp only [fill, Act.put, List.setIfInBounds_toArray, List.set_cons_zero, List.set_cons_succ]
        go_simp
        refine (pick_any _ _ _ _ _ hb1 (by omega) (by omega)).mono ?_
        rintro e w2 ⟨r, rfl, r0, r1, hrd2, ho2, _⟩
        exact ⟨⟨hrd2.more (by omega), HB2.out.trans (But.of_only ho2 (.inl rfl)), HB3.out.only_ ho2 (by omega)⟩, r, rfl, r0, by have := r1 (by omega); omega⟩
      · intro m y wv hm hb hd
        have d1 := hd { on := 1, ground := .data } (by simp) (by kernel_rfl)
        obtain ⟨z, hx1⟩ := d1
        have d3 := hd { on := 3, ground := .data } (by simp) (by kernel_rfl)
        obtain ⟨r, hx3, _, _⟩ := d3
        have HB := Lib.hid hb
        clear hd hb
        refine ⟨?_⟩
        simp only [fill, Act.put, List.setIfInBounds_toArray, List.set_cons_zero, List.set_cons_succ]
        go_simp
        exact ⟨⟨HB.out.1.more (by omega), HB.out.2⟩, _, rfl⟩
      · intro m y wv hm hb hd
        have HB := Lib.hid hb
        clear hd hb
        refine ⟨?_⟩
        simp only [fill, Act.put, List.setIfInBounds_toArray, List.set_cons_zero, List.set_cons_succ]
        go_simp
        exact ⟨⟨HB.out.1.more (by omega), HB.out.2⟩, rfl⟩
      · intro m y wv hm hb hd
        have d0 := hd { on := 5, ground := .data } (by simp) (by kernel_rfl)
        replace d0 : y 5 = .pointer (some ⟨gp, 0, none⟩) := d0
        have d1 := hd { on := 4, ground := .data } (by simp) (by kernel_rfl)
        obtain ⟨z, hx1⟩ := d1
        obtain ⟨hb1, hb2, p, hb3⟩ := hb
        have HB1 := Lib.hid (Rd.setCell (p := ⟨gp, 0, none⟩) hb1 (by first | (show w.heap.size + 1 + 1 < gp; omega) | (show w.heap.size + 1 + 1 ≠ gp; omega)) (.int .i64 z))
        have HB2 := Lib.hid (hb2.setCell (p := ⟨gp, 0, none⟩) (.inl (.inr rfl)) (.int .i64 z))
        have HB3 := Lib.hid (show PkBk 27 (wv.setCell ⟨gp, 0, none⟩ (.int .i64 z)) gp from ⟨⟨z, p.ti, p.la, p.si, p.ky, p.en⟩, by have := hb3.set_ 0 (.int .i64 z); simpa using this⟩)
        (try clear hb3_c0); (try clear hb3_f0)
        (try clear hb3_c1); (try clear hb3_f1)
        (try clear hb3_c2); (try clear hb3_f2)
        (try clear hb3_c3); (try clear hb3_f3)
        (try clear hb3_c4); (try clear hb3_f4)
        (try clear hb3_c5); (try clear hb3_f5)
        (try clear hb3_lt)
        have hb3_lt := hb3.lt; (try simp only [World.size_alloc] at hb3_lt)
        have hb3_c0 := hb3.cell 0; have hb3_f0 := hb3.frozen 0
        have hb3_c1 := hb3.cell 1; have hb3_f1 := hb3.frozen 1
        have hb3_c2 := hb3.cell 2; have hb3_f2 := hb3.frozen 2
        have hb3_c3 := hb3.cell 3; have hb3_f3 := hb3.frozen 3
        have hb3_c4 := hb3.cell 4; have hb3_f4 := hb3.frozen 4
        have hb3_c5 := hb3.cell 5; have hb3_f5 := hb3.frozen 5
        simp only [List.getElem?_toArray, List.getElem?_cons_zero, List.getElem?_cons_succ] at hb3_c0 hb3_c1 hb3_c2 hb3_c3 hb3_c4 hb3_c5
        clear hd hb1 hb2
        refine ⟨?_⟩
        simp only [fill, Act.put, List.setIfInBounds_toArray, List.set_cons_zero, List.set_cons_succ]
        go_simp
        exact ⟨⟨HB1.out.more (by omega), HB2.out, HB3.out⟩, undef, trivial⟩
      · intro y w7 ⟨hcr, hbt, hPP2⟩ hI
        replace hcr : Rd w7 (w.heap.size + 1 + 1) (w.heap.size + 1 + 1) (K5 + 7) := hcr
        clear hI hPP
        replace hres1 := hres1.but hbt (by show ¬ (_ ∨ _); omega)
        replace hre21 := hre21.but hbt (by show ¬ (_ ∨ _); omega)
        replace hX := hX.but hbt (by show ¬ (_ ∨ _); omega)
        replace hQ := hQ.but hbt (by show ¬ (_ ∨ _); omega)
        replace hpk5 := (hpk5.but0 hbt (fun k o e hn0 he => by
          rcases he with he | he
          · exact hfr0 k o e (by omega)
          · exact hfrp k o e hn0 he)).more (B' := w7.heap.size) hbt.size
        replace hB5 := hB5.trans (hbt.below (B := w.heap.size) (fun k hk => by omega) hB5.size)
        have hPP := hPP2
        have hrd5 := hcr
        clear hbt hPP2 hcr
        refine ⟨?_⟩
        simp only [fill, Act.put, List.setIfInBounds_toArray, List.set_cons_zero, List.set_cons_succ]
        obtain ⟨K6, hK6⟩ : ∃ K6, K6 = K5 + 7 := ⟨_, rfl⟩
        rw [← hK6] at hrd5
        go_wp2_with fail
        refine wp_region_inv (fun n w' => Rd w' (w.heap.size + 1 + 1) (w.heap.size + 1 + 1) (K6 + n) ∧ But (fun k => k = w.heap.size + 1 + 1 ∨ k = gp) w7 w' ∧ PkBk 27 w' gp) (fun _ _ => True) (IQb (w.heap.size + 1 + 1) gp gq) (by kernel_rfl) (by kernel_rfl) (by kernel_rfl) ⟨Rd.drew hrd5, But.drew (But.refl _ _), hPP.drew_⟩ IQb.mono ⟨?_, ?_, ?_, ?_, ?_, ?_, ?_, ?_, trivial⟩ ?_
        · intro m y wv hm hb hd
          have HB := Lib.hid hb
          clear hd hb
          refine ⟨?_⟩
          simp only [fill, Act.put, List.setIfInBounds_toArray, List.set_cons_zero, List.set_cons_succ]
          go_simp
          exact ⟨⟨HB.out.1.more (by omega), HB.out.2⟩, rfl⟩
        · intro m y wv hm hb hd
          have d0 := hd { on := 0, ground := .data } (by simp) (by kernel_rfl)
          replace d0 : y 0 = .pointer (some ⟨gq, 1, none⟩) := d0
          have hp := hQ.but hb.2.1 (by show ¬ (_ ∨ _); omega)
          (try clear hp_c0); (try clear hp_f0)
          (try clear hp_c1); (try clear hp_f1)
          (try clear hp_c2); (try clear hp_f2)
          (try clear hp_c3); (try clear hp_f3)
          (try clear hp_c4); (try clear hp_f4)
          (try clear hp_c5); (try clear hp_f5)
          (try clear hp_lt)
          have hp_lt := hp.lt; (try simp only [World.size_alloc] at hp_lt)
          have hp_c0 := hp.cell 0; have hp_f0 := hp.frozen 0
          have hp_c1 := hp.cell 1; have hp_f1 := hp.frozen 1
          have hp_c2 := hp.cell 2; have hp_f2 := hp.frozen 2
          have hp_c3 := hp.cell 3; have hp_f3 := hp.frozen 3
          have hp_c4 := hp.cell 4; have hp_f4 := hp.frozen 4
          have hp_c5 := hp.cell 5; have hp_f5 := hp.frozen 5
          simp only [List.getElem?_toArray, List.getElem?_cons_zero, List.getElem?_cons_succ] at hp_c0 hp_c1 hp_c2 hp_c3 hp_c4 hp_c5
          have HB := Lib.hid hb
          clear hd hb
          refine ⟨?_⟩
          simp only [fill, Act.put, List.setIfInBounds_toArray, List.set_cons_zero, List.set_cons_succ]
          go_simp
          exact ⟨⟨HB.out.1.more (by omega), HB.out.2⟩, _, rfl⟩
        · intro m y wv hm hb hd
          have HB := Lib.hid hb
          clear hd hb
          refine ⟨?_⟩
          simp only [fill, Act.put, List.setIfInBounds_toArray, List.set_cons_zero, List.set_cons_succ]
          go_simp
          exact ⟨⟨HB.out.1.more (by omega), HB.out.2⟩, rfl⟩
        · intro m y wv hm hb hd
          have d0 := hd { on := 2, ground := .data } (by simp) (by kernel_rfl)
          replace d0 : y 2 = .pointer (some ⟨w.heap.size + 1 + 1, 0, none⟩) := d0
          obtain ⟨hb1, hb2, hb3⟩ := hb
          replace hm : m < 8 := hm
          have HB2 := Lib.hid hb2
          have HB3 := Lib.hid hb3
          clear hd hb2 hb3
          refine ⟨?_⟩
          simp only [fill, Act.put, List.setIfInBounds_toArray, List.set_cons_zero, List.set_cons_succ]
          go_simp
          refine (pick_any _ _ _ _ _ hb1 (by omega) (by omega)).mono ?_
          rintro e w2 ⟨r, rfl, r0, r1, hrd2, ho2, _⟩
          exact ⟨⟨hrd2.more (by omega), HB2.out.trans (But.of_only ho2 (.inl rfl)), HB3.out.only_ ho2 (by omega)⟩, r, rfl, r0, by have := r1 (by omega); omega⟩
        · intro m y wv hm hb hd
          have d3 := hd { on := 3, ground := .data } (by simp) (by kernel_rfl)
          obtain ⟨r, hx3, _, _⟩ := d3
          have HB := Lib.hid hb
          clear hd hb
          refine ⟨?_⟩
          simp only [fill, Act.put, List.setIfInBounds_toArray, List.set_cons_zero, List.set_cons_succ]
          go_simp
          exact ⟨⟨HB.out.1.more (by omega), HB.out.2⟩, _, rfl⟩
        · intro m y wv hm hb hd
          have d1 := hd { on := 1, ground := .data } (by simp) (by kernel_rfl)
          obtain ⟨z, hx1⟩ := d1
          have d3 := hd { on := 4, ground := .data } (by simp) (by kernel_rfl)
          obtain ⟨r, hx3⟩ := d3
          have HB := Lib.hid hb
          clear hd hb
          refine ⟨?_⟩
          simp only [fill, Act.put, List.setIfInBounds_toArray, List.set_cons_zero, List.set_cons_succ]
          go_simp
          exact ⟨⟨HB.out.1.more (by omega), HB.out.2⟩, _, rfl⟩
        · intro m y wv hm hb hd
          have HB := Lib.hid hb
          clear hd hb
          refine ⟨?_⟩
          simp only [fill, Act.put, List.setIfInBounds_toArray, List.set_cons_zero, List.set_cons_succ]
          go_simp
          exact ⟨⟨HB.out.1.more (by omega), HB.out.2⟩, rfl⟩
        · intro m y wv hm hb hd
          have d0 := hd { on := 6, ground := .data } (by simp) (by kernel_rfl)
          replace d0 : y 6 = .pointer (some ⟨gp, 1, none⟩) := d0
          have d1 := hd { on := 5, ground := .data } (by simp) (by kernel_rfl)
          obtain ⟨z, hx1⟩ := d1
          obtain ⟨hb1, hb2, p, hb3⟩ := hb
          have HB1 := Lib.hid (Rd.setCell (p := ⟨gp, 1, none⟩) hb1 (by first | (show w.heap.size + 1 + 1 < gp; omega) | (show w.heap.size + 1 + 1 ≠ gp; omega)) (.int .i64 z))
          have HB2 := Lib.hid (hb2.setCell (p := ⟨gp, 1, none⟩) (.inl (.inr rfl)) (.int .i64 z))
          have HB3 := Lib.hid (show PkBk 27 (wv.setCell ⟨gp, 1, none⟩ (.int .i64 z)) gp from ⟨⟨p.wi, z, p.la, p.si, p.ky, p.en⟩, by have := hb3.set_ 1 (.int .i64 z); simpa using this⟩)
          (try clear hb3_c0); (try clear hb3_f0)
          (try clear hb3_c1); (try clear hb3_f1)
          (try clear hb3_c2); (try clear hb3_f2)
          (try clear hb3_c3); (try clear hb3_f3)
          (try clear hb3_c4); (try clear hb3_f4)
          (try clear hb3_c5); (try clear hb3_f5)
          (try clear hb3_lt)
          have hb3_lt := hb3.lt; (try simp only [World.size_alloc] at hb3_lt)
          have hb3_c0 := hb3.cell 0; have hb3_f0 := hb3.frozen 0
          have hb3_c1 := hb3.cell 1; have hb3_f1 := hb3.frozen 1
          have hb3_c2 := hb3.cell 2; have hb3_f2 := hb3.frozen 2
          have hb3_c3 := hb3.cell 3; have hb3_f3 := hb3.frozen 3
          have hb3_c4 := hb3.cell 4; have hb3_f4 := hb3.frozen 4
          have hb3_c5 := hb3.cell 5; have hb3_f5 := hb3.frozen 5
          simp only [List.getElem?_toArray, List.getElem?_cons_zero, List.getElem?_cons_succ] at hb3_c0 hb3_c1 hb3_c2 hb3_c3 hb3_c4 hb3_c5
          clear hd hb1 hb2
          refine ⟨?_⟩
          simp only [fill, Act.put, List.setIfInBounds_toArray, List.set_cons_zero, List.set_cons_succ]
          go_simp
          exact ⟨⟨HB1.out.more (by omega), HB2.out, HB3.out⟩, undef, trivial⟩
        · intro y w8 ⟨hcr, hbt, hPP2⟩ hI
          replace hcr : Rd w8 (w.heap.size + 1 + 1) (w.heap.size + 1 + 1) (K6 + 8) := hcr
          clear hI hPP
          replace hres1 := hres1.but hbt (by show ¬ (_ ∨ _); omega)
          replace hre21 := hre21.but hbt (by show ¬ (_ ∨ _); omega)
          replace hX := hX.but hbt (by show ¬ (_ ∨ _); omega)
          replace hQ := hQ.but hbt (by show ¬ (_ ∨ _); omega)
          replace hpk5 := (hpk5.but0 hbt (fun k o e hn0 he => by
            rcases he with he | he
            · exact hfr0 k o e (by omega)
            · exact hfrp k o e hn0 he)).more (B' := w8.heap.size) hbt.size
          replace hB5 := hB5.trans (hbt.below (B := w.heap.size) (fun k hk => by omega) hB5.size)
          have hPP := hPP2
          have hrd5 := hcr
          clear hbt hPP2 hcr
          refine ⟨?_⟩
          simp only [fill, Act.put, List.setIfInBounds_toArray, List.set_cons_zero, List.set_cons_succ]
          obtain ⟨x2, hP⟩ := hPP
          have hXl := hX.lt
          have hPl := hP.lt
          have hrl := hres1.lt
          have hrl2 := hre21.lt
          have HPK5 := Lib.hid hpk5
          have HB5 := Lib.hid hB5
          clear hpk5 hB5
          go_wp2_with fail
          refine wp_region_inv (fun n w' => But (fun k => k = w.heap.size ∨ k = w.heap.size + 1) w8 w' ∧ C3 25 w' w.heap.size ∧ C6 27 w' (w.heap.size + 1)) (KpR 25 27 w.heap.size #[.int .i64 ro, .int .i64 co, .slice A2 n2 c2] #[.int .i64 x2.wi, .int .i64 x2.ti, .int .i64 x2.la, .int .i64 x2.si, .bool x2.ky, .bool x2.en]) (IQe 25 27 w.heap.size ro co A2 n2 c2 x2) (by kernel_rfl) (by kernel_rfl) (by kernel_rfl) ⟨But.drew (But.refl _ _), ⟨_, _, _, hres1.drew⟩, ⟨_, _, _, _, _, _, hre21.drew⟩⟩ IQe.mono ⟨?_, ?_, ?_, ?_, trivial⟩ ?_
          · intro m y wv hm hb hd
            have hp := hX.but hb.1 (by show ¬ (_ ∨ _); omega)
            (try clear hp_c0); (try clear hp_f0)
            (try clear hp_c1); (try clear hp_f1)
            (try clear hp_c2); (try clear hp_f2)
            (try clear hp_lt)
            have hp_lt := hp.lt; (try simp only [World.size_alloc] at hp_lt)
            have hp_c0 := hp.cell 0; have hp_f0 := hp.frozen 0
            have hp_c1 := hp.cell 1; have hp_f1 := hp.frozen 1
            have hp_c2 := hp.cell 2; have hp_f2 := hp.frozen 2
            simp only [List.getElem?_toArray, List.getElem?_cons_zero, List.getElem?_cons_succ] at hp_c0 hp_c1 hp_c2
            have HB := Lib.hid hb
            clear hd hb
            refine ⟨?_⟩
            simp only [fill, Act.put, List.setIfInBounds_toArray, List.set_cons_zero, List.set_cons_succ]
            go_simp
            exact ⟨⟨id, id⟩, HB.out, rfl⟩
          · intro m y wv hm hb hd
            have hp := hP.but hb.1 (by show ¬ (_ ∨ _); omega)
            (try clear hp_c0); (try clear hp_f0)
            (try clear hp_c1); (try clear hp_f1)
            (try clear hp_c2); (try clear hp_f2)
            (try clear hp_c3); (try clear hp_f3)
            (try clear hp_c4); (try clear hp_f4)
            (try clear hp_c5); (try clear hp_f5)
            (try clear hp_lt)
            have hp_lt := hp.lt; (try simp only [World.size_alloc] at hp_lt)
            have hp_c0 := hp.cell 0; have hp_f0 := hp.frozen 0
            have hp_c1 := hp.cell 1; have hp_f1 := hp.frozen 1
            have hp_c2 := hp.cell 2; have hp_f2 := hp.frozen 2
            have hp_c3 := hp.cell 3; have hp_f3 := hp.frozen 3
            have hp_c4 := hp.cell 4; have hp_f4 := hp.frozen 4
            have hp_c5 := hp.cell 5; have hp_f5 := hp.frozen 5
            simp only [List.getElem?_toArray, List.getElem?_cons_zero, List.getElem?_cons_succ] at hp_c0 hp_c1 hp_c2 hp_c3 hp_c4 hp_c5
            have HB := Lib.hid hb
            clear hd hb
            refine ⟨?_⟩
            simp only [fill, Act.put, List.setIfInBounds_toArray, List.set_cons_zero, List.set_cons_succ]
            go_simp
            exact ⟨⟨id, id⟩, HB.out, rfl⟩
          · intro m y wv hm hb hd
            have d0 := hd { on := 0, ground := .data } (by simp) (by kernel_rfl)
            replace d0 : y 0 = .agg #[.int .i64 ro, .int .i64 co, .slice A2 n2 c2] := d0
            obtain ⟨hb1, ⟨c0, c1, c2', hb2⟩, ⟨k0, k1, k2, k3, k4, k5, hb3⟩⟩ := hb
            have HB1 := Lib.hid (((hb1.setCell (p := ⟨w.heap.size, 0, none⟩) (.inl (.inl rfl)) (.int .i64 ro)).setCell (p := ⟨w.heap.size, 1, none⟩) (.inl (.inl rfl)) (.int .i64 co)).setCell (p := ⟨w.heap.size, 2, none⟩) (.inl (.inl rfl)) (.slice A2 n2 c2))
            have HB2 := Lib.hid (show Bk (((wv.setCell ⟨w.heap.size, 0, none⟩ (.int .i64 ro)).setCell ⟨w.heap.size, 1, none⟩ (.int .i64 co)).setCell ⟨w.heap.size, 2, none⟩ (.slice A2 n2 c2)) w.heap.size 25 #[.int .i64 ro, .int .i64 co, .slice A2 n2 c2] by have := ((hb2.set_ 0 (.int .i64 ro)).set_ 1 (.int .i64 co)).set_ 2 (.slice A2 n2 c2); simpa using this)
            have hO : Only w.heap.size wv (((wv.setCell ⟨w.heap.size, 0, none⟩ (.int .i64 ro)).setCell ⟨w.heap.size, 1, none⟩ (.int .i64 co)).setCell ⟨w.heap.size, 2, none⟩ (.slice A2 n2 c2)) := (((Only.refl w.heap.size wv).setCell (p := ⟨w.heap.size, 0, none⟩) (.inl rfl) _).setCell (p := ⟨w.heap.size, 1, none⟩) (.inl rfl) _).setCell (p := ⟨w.heap.size, 2, none⟩) (.inl rfl) _
            have HB3 := Lib.hid (hb3.only hO (by omega))
            have HR := Lib.hid (fun h : Bk wv (w.heap.size + 1) 27 #[.int .i64 x2.wi, .int .i64 x2.ti, .int .i64 x2.la, .int .i64 x2.si, .bool x2.ky, .bool x2.en] => h.only hO (by omega))
            (try clear hb2_c0); (try clear hb2_f0)
            (try clear hb2_c1); (try clear hb2_f1)
            (try clear hb2_c2); (try clear hb2_f2)
            (try clear hb2_lt)
            have hb2_lt := hb2.lt; (try simp only [World.size_alloc] at hb2_lt)
            have hb2_c0 := hb2.cell 0; have hb2_f0 := hb2.frozen 0
            have hb2_c1 := hb2.cell 1; have hb2_f1 := hb2.frozen 1
            have hb2_c2 := hb2.cell 2; have hb2_f2 := hb2.frozen 2
            simp only [List.getElem?_toArray, List.getElem?_cons_zero, List.getElem?_cons_succ] at hb2_c0 hb2_c1 hb2_c2
            clear hd hb1 hO hb3
            refine ⟨?_⟩
            simp only [fill, Act.put, List.setIfInBounds_toArray, List.set_cons_zero, List.set_cons_succ]
            go_simp
            exact ⟨⟨fun _ => HB2.out, HR.out⟩, ⟨HB1.out, ⟨_, _, _, HB2.out⟩, ⟨_, _, _, _, _, _, HB3.out⟩⟩, undef, HB2.out⟩
          · intro m y wv hm hb hd
            have d0 := hd { on := 1, ground := .data } (by simp) (by kernel_rfl)
            replace d0 : y 1 = .agg #[.int .i64 x2.wi, .int .i64 x2.ti, .int .i64 x2.la, .int .i64 x2.si, .bool x2.ky, .bool x2.en] := d0
            obtain ⟨hb1, ⟨c0, c1, c2', hb2⟩, ⟨k0, k1, k2, k3, k4, k5, hb3⟩⟩ := hb
            have HB1 := Lib.hid ((((((hb1.setCell (p := ⟨w.heap.size + 1, 0, none⟩) (.inl (.inr rfl)) (.int .i64 x2.wi)).setCell (p := ⟨w.heap.size + 1, 1, none⟩) (.inl (.inr rfl)) (.int .i64 x2.ti)).setCell (p := ⟨w.heap.size + 1, 2, none⟩) (.inl (.inr rfl)) (.int .i64 x2.la)).setCell (p := ⟨w.heap.size + 1, 3, none⟩) (.inl (.inr rfl)) (.int .i64 x2.si)).setCell (p := ⟨w.heap.size + 1, 4, none⟩) (.inl (.inr rfl)) (.bool x2.ky)).setCell (p := ⟨w.heap.size + 1, 5, none⟩) (.inl (.inr rfl)) (.bool x2.en))
            have HB3 := Lib.hid (show Bk ((((((wv.setCell ⟨w.heap.size + 1, 0, none⟩ (.int .i64 x2.wi)).setCell ⟨w.heap.size + 1, 1, none⟩ (.int .i64 x2.ti)).setCell ⟨w.heap.size + 1, 2, none⟩ (.int .i64 x2.la)).setCell ⟨w.heap.size + 1, 3, none⟩ (.int .i64 x2.si)).setCell ⟨w.heap.size + 1, 4, none⟩ (.bool x2.ky)).setCell ⟨w.heap.size + 1, 5, none⟩ (.bool x2.en)) (w.heap.size + 1) 27 #[.int .i64 x2.wi, .int .i64 x2.ti, .int .i64 x2.la, .int .i64 x2.si, .bool x2.ky, .bool x2.en] by have := (((((hb3.set_ 0 (.int .i64 x2.wi)).set_ 1 (.int .i64 x2.ti)).set_ 2 (.int .i64 x2.la)).set_ 3 (.int .i64 x2.si)).set_ 4 (.bool x2.ky)).set_ 5 (.bool x2.en); simpa using this)
            have hO : Only (w.heap.size + 1) wv ((((((wv.setCell ⟨w.heap.size + 1, 0, none⟩ (.int .i64 x2.wi)).setCell ⟨w.heap.size + 1, 1, none⟩ (.int .i64 x2.ti)).setCell ⟨w.heap.size + 1, 2, none⟩ (.int .i64 x2.la)).setCell ⟨w.heap.size + 1, 3, none⟩ (.int .i64 x2.si)).setCell ⟨w.heap.size + 1, 4, none⟩ (.bool x2.ky)).setCell ⟨w.heap.size + 1, 5, none⟩ (.bool x2.en)) := ((((((Only.refl (w.heap.size + 1) wv).setCell (p := ⟨w.heap.size + 1, 0, none⟩) (.inl rfl) _).setCell (p := ⟨w.heap.size + 1, 1, none⟩) (.inl rfl) _).setCell (p := ⟨w.heap.size + 1, 2, none⟩) (.inl rfl) _).setCell (p := ⟨w.heap.size + 1, 3, none⟩) (.inl rfl) _).setCell (p := ⟨w.heap.size + 1, 4, none⟩) (.inl rfl) _).setCell (p := ⟨w.heap.size + 1, 5, none⟩) (.inl rfl) _
            have HB2 := Lib.hid (hb2.only hO (by omega))
            have HR := Lib.hid (fun h : Bk wv w.heap.size 25 #[.int .i64 ro, .int .i64 co, .slice A2 n2 c2] => h.only hO (by omega))
            (try clear hb3_c0); (try clear hb3_f0)
            (try clear hb3_c1); (try clear hb3_f1)
            (try clear hb3_c2); (try clear hb3_f2)
            (try clear hb3_c3); (try clear hb3_f3)
            (try clear hb3_c4); (try clear hb3_f4)
            (try clear hb3_c5); (try clear hb3_f5)
            (try clear hb3_lt)
            have hb3_lt := hb3.lt; (try simp only [World.size_alloc] at hb3_lt)
            have hb3_c0 := hb3.cell 0; have hb3_f0 := hb3.frozen 0
            have hb3_c1 := hb3.cell 1; have hb3_f1 := hb3.frozen 1
            have hb3_c2 := hb3.cell 2; have hb3_f2 := hb3.frozen 2
            have hb3_c3 := hb3.cell 3; have hb3_f3 := hb3.frozen 3
            have hb3_c4 := hb3.cell 4; have hb3_f4 := hb3.frozen 4
            have hb3_c5 := hb3.cell 5; have hb3_f5 := hb3.frozen 5
            simp only [List.getElem?_toArray, List.getElem?_cons_zero, List.getElem?_cons_succ] at hb3_c0 hb3_c1 hb3_c2 hb3_c3 hb3_c4 hb3_c5
            clear hd hb1 hO hb2
            refine ⟨?_⟩
            simp only [fill, Act.put, List.setIfInBounds_toArray, List.set_cons_zero, List.set_cons_succ]
            go_simp
            exact ⟨⟨HR.out, fun _ => HB3.out⟩, ⟨HB1.out, ⟨_, _, _, HB2.out⟩, ⟨_, _, _, _, _, _, HB3.out⟩⟩, undef, HB3.out⟩
          · intro y wv ⟨hbt, _, _⟩ hI
            have hR4 : Bk wv w.heap.size 25 #[.int .i64 ro, .int .i64 co, .slice A2 n2 c2] := hI 2 (by decide)
            have hS4 : Bk wv (w.heap.size + 1) 27 #[.int .i64 x2.wi, .int .i64 x2.ti, .int .i64 x2.la, .int .i64 x2.si, .bool x2.ky, .bool x2.en] := hI 3 (by decide)
            have HF := Lib.hid ((HPK5.out.but0 hbt (fun k o e _ he => hfr0 k o e (by omega))).more (B' := wv.heap.size) hbt.size)
            have HBF := Lib.hid (HB5.out.trans (hbt.below (B := w.heap.size) (fun k hk => by omega) HB5.out.size))
            clear hI hbt
            (try clear hR4_c0); (try clear hR4_f0)
            (try clear hR4_c1); (try clear hR4_f1)
            (try clear hR4_c2); (try clear hR4_f2)
            (try clear hR4_lt)
            have hR4_lt := hR4.lt; (try simp only [World.size_alloc] at hR4_lt)
            have hR4_c0 := hR4.cell 0; have hR4_f0 := hR4.frozen 0
            have hR4_c1 := hR4.cell 1; have hR4_f1 := hR4.frozen 1
            have hR4_c2 := hR4.cell 2; have hR4_f2 := hR4.frozen 2
            simp only [List.getElem?_toArray, List.getElem?_cons_zero, List.getElem?_cons_succ] at hR4_c0 hR4_c1 hR4_c2
            (try clear hS4_c0); (try clear hS4_f0)
            (try clear hS4_c1); (try clear hS4_f1)
            (try clear hS4_c2); (try clear hS4_f2)
            (try clear hS4_c3); (try clear hS4_f3)
            (try clear hS4_c4); (try clear hS4_f4)
            (try clear hS4_c5); (try clear hS4_f5)
            (try clear hS4_lt)
            have hS4_lt := hS4.lt; (try simp only [World.size_alloc] at hS4_lt)
            have hS4_c0 := hS4.cell 0; have hS4_f0 := hS4.frozen 0
            have hS4_c1 := hS4.cell 1; have hS4_f1 := hS4.frozen 1
            have hS4_c2 := hS4.cell 2; have hS4_f2 := hS4.frozen 2
            have hS4_c3 := hS4.cell 3; have hS4_f3 := hS4.frozen 3
            have hS4_c4 := hS4.cell 4; have hS4_f4 := hS4.frozen 4
            have hS4_c5 := hS4.cell 5; have hS4_f5 := hS4.frozen 5
            simp only [List.getElem?_toArray, List.getElem?_cons_zero, List.getElem?_cons_succ] at hS4_c0 hS4_c1 hS4_c2 hS4_c3 hS4_c4 hS4_c5
            refine ⟨?_⟩
            simp only [fill, Act.put, List.setIfInBounds_toArray, List.set_cons_zero, List.set_cons_succ]
            go_wp2
            refine ⟨rfl, ?_⟩
            apply Exists.intro
            apply And.intro
            · simp [results, Try.results7, go_sem, hR4_c0, hR4_c1, hR4_c2, hS4_c0, hS4_c1, hS4_c2, hS4_c3, hS4_c4, hS4_c5, hR4_lt, hS4_lt]; exact rfl
            · exact ⟨_, _, _, x2, rfl, ⟨ro, co, A2, n2, c2, xs, rfl, rfl, rfl, hn8, hnc2, hc2, hco0, hco1, HF.out, hfrw⟩, HBF.out⟩

end Go.Proofs.Ytjhppghkhfacaaa
