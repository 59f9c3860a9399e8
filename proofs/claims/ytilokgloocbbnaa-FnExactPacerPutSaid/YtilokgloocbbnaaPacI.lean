/-
  A tick of the reference.
  Conditions: as each theorem states them.
-/
import Derived.Deep.RegionHeld3
import Derived.Test.YtilokgloocbbnaaRows
import Derived.Test.YtilokgloocbbnaaLib
import Derived.Test.YtilokgloocbbnaaOwn
import Derived.Test.YtilokgloocbbnaaBut
import Derived.Test.YtilokgloocbbnaaDraw
import Derived.Test.YtilokgloocbbnaaInv
import Derived.Test.YtilokgloocbbnaaSlots
import Derived.Test.YtilokgloocbbnaaApp
import Derived.Test.YtilokgloocbbnaaPac
import Derived.Test.YtilokgloocbbnaaPacB
import Derived.Test.YtilokgloocbbnaaPacP
import Derived.Outline
namespace Go.Proofs.Ytilokgloocbbnaa
open Go.RowKit
set_option linter.unusedVariables false
set_option linter.unusedSimpArgs false

theorem Sl.none_ {w : World} {B size : Nat} {A : Option Addr} : Sl w B size A 0 [] := ⟨by simp, fun h => absurd h (by omega)⟩
/-- Behind a tick: a pacer and what was sent, in memory of the call's own, apart. -/
def Ticked (ea cr : Int) (xs : List Wt) (w : World) (v u : Value) (w' : World) : Prop :=
  w'.ownsRow w.heap.size 27 3 v (rs ea cr xs).length ((rs ea cr xs).flatMap Wt.c) ∧ w'.ownsRow w.heap.size 27 3 u (sn ea cr xs).length ((sn ea cr xs).flatMap Wt.c) ∧ (∀ b, v.ownBlock = some b → u.ownBlock ≠ some b) ∧ Below w.heap.size w w'
def tick2 (ea cr : Int) (xs : List Wt) (w : World) (y : Ending) (w' : World) : Prop := ∃ v u, y = .returned (.tuple #[.agg #[.int .i64 ea, .int .i64 (nx ea cr xs), v], u]) ∧ Ticked ea cr xs w v u w'

theorem ticked_end {ea cr : Int} {xs : List Wt} {w wr w2 w3 : World} {v u : Value} {k m N R : Nat} (hk : tk (c0 ea cr) xs = k) (hkl : k ≤ xs.length) (hm : m = xs.length - k)
    (hu : wr.ownsRow N 27 3 u k ((xs.take k).flatMap Wt.c)) (hB : Below w.heap.size w wr) (hb2 : Below wr.heap.size wr w2) (hv : w2.ownsRow wr.heap.size 27 3 v m ((xs.drop k).flatMap Wt.c)) (ho : Only R w2 w3) (hR : R < N) (hR2 : R < wr.heap.size) (hR3 : w.heap.size ≤ R) : Ticked ea cr xs w v u w3 := by
  have hs := hB.size
  have hs2 := hb2.size
  refine ⟨?_, ?_, fun b hv' hu' => ?_, ?_⟩
  · have h1 := own_more (own_only hv ho hR2) hs
    have e1 : (rs ea cr xs).length = m := by unfold rs; rw [hk, List.length_drop]; omega
    rw [e1]
    unfold rs
    rw [hk]
    exact h1
  · have h1 := own_more (own_only (own_below hu hb2) ho hR) (base' := w.heap.size) (by omega)
    have e1 : (sn ea cr xs).length = k := by unfold sn; rw [hk, List.length_take]; omega
    rw [e1]
    unfold sn
    rw [hk]
    exact h1
  · have h1 := (hv.lt b hv').1
    have h2 := (hu.lt b hu').2
    omega
  · exact (hB.trans (hb2.mono hs)).trans (ho.below hR3 (by omega))

set_option maxHeartbeats 8000000 in
theorem l22Tick_any (ea cr : Int) (A : Option Addr) (n c : Nat) (xs : List Wt) (w : World) (h : Wts w w.heap.size A n xs) (hnc : n ≤ c) (hc : c ≤ maxLen) (hp : pOk ea cr xs) :
    Calls Try.prog 44 #[.agg #[.int .i64 ea, .int .i64 cr, .slice A n c]] w (tick2 ea cr xs w) := by
  have HL := Lib.hid h.len
  have hP := (Bk.new w 25 #[.int .i64 ea, .int .i64 cr, .slice A n c]).alloc (.cells #[.int .i64 0, .int .i64 0, .slice none 0 0] 25)
  have hR := Bk.new (w.alloc (.cells #[.int .i64 ea, .int .i64 cr, .slice A n c] 25)) 25 #[.int .i64 0, .int .i64 0, .slice none 0 0]
  simp only [World.size_alloc] at hR
  obtain ⟨i0, hi0, hz0, hz1, hz2⟩ := info_parts wt_info
  have HP := Lib.hid hp
  obtain ⟨p1, p2, p3, p4, p5, p6⟩ := hp
  have hn12 : n ≤ 12 := by rw [← HL.out]; exact p5
  have HM := Lib.hid (fun x (hx : x ∈ xs) => okTo_mem p6 hx)
  have HS := Lib.hid (show ∀ x ∈ xs, 0 ≤ x.sz from fun x hx => by have := (HM.out x hx).2.2.2.2.1; omega)
  clear p5 p6
  unfold maxLen at hc
  have hmn := fun (w : World) (ts : Array TypeId) (t : TypeId) (x y : Int) => run_min_plain (P := Try.prog) w ts t x y
  have hO0 : (w.alloc (.cells #[.int .i64 ea, .int .i64 cr, .slice A n c] 25)).heap.size = w.heap.size + 1 := by simp
  have HOWN := Lib.hid (own_empty ((w.alloc (.cells #[.int .i64 ea, .int .i64 cr, .slice A n c] 25)).alloc (.cells #[.int .i64 0, .int .i64 0, .slice none 0 0] 25)) (w.heap.size + 1 + 1) 27 3 (by simp))
  go_enter Try.func44, Try.ntmps44
  go_wp2
  have hc0 : c0 ea cr = min (cr + ea) 3000 := rfl
  have hP0 := hP.alloc (.cells #[] 27)
  have hR0 := hR.alloc (.cells #[] 27)
  have hB0 : Below w.heap.size w (((w.alloc (.cells #[.int .i64 ea, .int .i64 cr, .slice A n c] 25)).alloc (.cells #[.int .i64 0, .int .i64 0, .slice none 0 0] 25)).alloc (.cells #[] 27)) := (by repeat (first | exact Below.refl _ _ | assumption | refine Below.setCell ?_ (by first | omega | (simp; done) | (simp; omega)) _ | refine Below.alloc ?_ (by first | omega | (simp; done) | (simp; omega)) _ | refine Below.drew ?_ | refine Below.drewN' ?_ _ | refine Below.trans ?_ (Below.mono (by assumption) (by first | omega | (simp; done) | (simp; omega)))))
  have hcb : 0 ≤ c0 ea cr ∧ c0 ea cr ≤ 3000 := by rw [hc0]; omega
  have HCB := Lib.hid hcb
  rw [← hc0]
  have HC0 := Lib.hid hc0
  clear hc0 hP hR
  go_loopw [4, 5, 6] (fun u z i wr => ∃ k : Nat, k ≤ n ∧ Hid (k ≤ tk (c0 ea cr) xs) ∧ i = .int .i64 k ∧ z = .int .i64 (cd (c0 ea cr) xs k) ∧ wr.ownsRow (w.heap.size + 1 + 1) 27 3 u k ((xs.take k).flatMap Wt.c) ∧ Bk wr w.heap.size 25 #[.int .i64 ea, .int .i64 cr, .slice A n c] ∧ Bk wr (w.heap.size + 1) 25 #[.int .i64 0, .int .i64 0, .slice none 0 0] ∧ Below w.heap.size w wr) (fun _ _ i _ => n - (intOf i).toNat)
  case atStart => exact ⟨0, by omega, Lib.hid (by omega), rfl, by rw [cd_zero], by simpa using HOWN.out, hP0, hR0, hB0⟩
  case round =>
    obtain ⟨k, hk, HK, rfl, rfl, hown, hP, hR, hB⟩ := hrel
    clear hP0 hR0 hB0 hcb
    have hz := cd_bd HK.out HCB.out.1 HS.out
    have hzz0 := hz.1
    have hzz1 : cd (c0 ea cr) xs k ≤ 3000 := by have := HCB.out.2; omega
    clear hz
    have HOW := Lib.hid hown
    clear hown
    (try clear hP_c0); (try clear hP_f0)
    (try clear hP_c1); (try clear hP_f1)
    (try clear hP_c2); (try clear hP_f2)
    (try clear hP_lt)
    have hP_lt := hP.lt; (try simp only [World.size_alloc] at hP_lt)
    have hP_c0 := hP.cell 0; have hP_f0 := hP.frozen 0
    have hP_c1 := hP.cell 1; have hP_f1 := hP.frozen 1
    have hP_c2 := hP.cell 2; have hP_f2 := hP.frozen 2
    simp only [List.getElem?_toArray, List.getElem?_cons_zero, List.getElem?_cons_succ] at hP_c0 hP_c1 hP_c2
    (try clear hR_c0); (try clear hR_f0)
    (try clear hR_c1); (try clear hR_f1)
    (try clear hR_c2); (try clear hR_f2)
    (try clear hR_lt)
    have hR_lt := hR.lt; (try simp only [World.size_alloc] at hR_lt)
    have hR_c0 := hR.cell 0; have hR_f0 := hR.frozen 0
    have hR_c1 := hR.cell 1; have hR_f1 := hR.frozen 1
    have hR_c2 := hR.cell 2; have hR_f2 := hR.frozen 2
    simp only [List.getElem?_toArray, List.getElem?_cons_zero, List.getElem?_cons_succ] at hR_c0 hR_c1 hR_c2
    by_cases hlt : k < n ∧ ∀ x, xs[k]? = some x → x.sz ≤ cd (c0 ea cr) xs k
    · obtain ⟨hlt, hle⟩ := hlt
      have e0 : decide (k < n) = true := by simpa using hlt
      obtain ⟨b, off, rfl, hb, hcell⟩ := h.addr (by omega)
      obtain ⟨x, hx⟩ : ∃ x, xs[k]? = some x := ⟨_, List.getElem?_eq_getElem (by rw [HL.out]; exact hlt)⟩
      have hxle := hle x hx
      have e1 : decide (x.sz ≤ cd (c0 ea cr) xs k) = true := by simpa using hxle
      obtain ⟨c0', c1', c2'⟩ := hcell k x hx
      replace c0' := (hB.cell (p := ⟨b, off + k * 3, none⟩) hb).trans c0'
      replace c1' := (hB.cell (p := ⟨b, off + k * 3 + 1, none⟩) hb).trans c1'
      replace c2' := (hB.cell (p := ⟨b, off + k * 3 + 2, none⟩) hb).trans c2'
      have hxs := (HM.out x (List.mem_of_getElem? hx)).2.2.2.2.1
      have HX := Lib.hid hx
      have HCD := Lib.hid (cd_succ (c := c0 ea cr) hx)
      have HKS := Lib.hid (tk_succ HK.out hx hxle)
      have HTK := Lib.hid (show (xs.take (k + 1)).flatMap Wt.c = (xs.take k).flatMap Wt.c ++ x.c by
        have hlt' := (List.getElem?_eq_some_iff.1 hx).1
        have hxx := (List.getElem?_eq_some_iff.1 hx).2
        rw [List.take_succ_eq_append_getElem hlt', hxx]
        simp)
      have HNB := Lib.hid (show Sl (wr.alloc (.cells #[.int .i64 x.id, .int .i64 x.cl, .int .i64 x.sz] 27)) (wr.heap.size + 1) 3 (some ⟨wr.heap.size, 0, none⟩) 1 x.c from ⟨rfl, fun _ => ⟨wr.heap.size, 0, rfl, by omega, fun j u hu => by
        rw [Nat.zero_add, (Bk.new wr 27 #[.int .i64 x.id, .int .i64 x.cl, .int .i64 x.sz]).cell j]; simpa [Wt.c] using hu⟩⟩)
      have hbs := hB.size
      have HC3 := Lib.hid (hcell k x hx)
      clear hcell hx hle
      generalize cd (c0 ea cr) xs k = z at *
      go_wp2_with (at_builtin; refine wpList_app _ rfl _ _ 23 rfl (w.heap.size + 1 + 1) 27 i0 (.agg #[.int .i64 0, .int .i64 0, .int .i64 0]) 3 24 Try.underlying23 hi0 hz0 hz1 hz2 rfl (by omega) _ k _ rfl (HOW.out.alloc _) (wr.heap.size + 1) (some ⟨wr.heap.size, 0, none⟩) 1 1 _ rfl HNB.out (one_wt x) (by unfold maxLen; omega) (by omega) (by simp; omega) ?_; intro v2 w2 hown2 hgrow hat; have hP2 := (hP.alloc (.cells #[.int .i64 x.id, .int .i64 x.cl, .int .i64 x.sz] 27)).grown_own hgrow (HOW.out.alloc _) (by omega); have hR2 := (hR.alloc (.cells #[.int .i64 x.id, .int .i64 x.cl, .int .i64 x.sz] 27)).grown_own hgrow (HOW.out.alloc _) (by omega); have hB2 := Below.grown_own (hB.alloc hbs (.cells #[.int .i64 x.id, .int .i64 x.cl, .int .i64 x.sz] 27)) hgrow (HOW.out.alloc _) (by omega) (by simp; omega); obtain ⟨d0, d1, d2⟩ := HC3.out; replace d0 := (hB2.cell (p := ⟨b, off + k * 3, none⟩) hb).trans d0; replace d1 := (hB2.cell (p := ⟨b, off + k * 3 + 1, none⟩) hb).trans d1; replace d2 := (hB2.cell (p := ⟨b, off + k * 3 + 2, none⟩) hb).trans d2; have P0 := hP2.cell 0; have P1 := hP2.cell 1; have P2 := hP2.cell 2; simp only [List.getElem?_toArray, List.getElem?_cons_zero, List.getElem?_cons_succ] at P0 P1 P2)
      rw [← HTK.out] at hown2
      have HO2 := Lib.hid hown2
      clear hown2 hgrow hat
      go_wp2
      go_roundw
      case rel => exact ⟨k + 1, by omega, HKS, by go_num, by rw [HCD.out], HO2.out, hP2, hR2, hB2⟩
      case measure => simp [intOf]; omega
    · have hkt : tk (c0 ea cr) xs = k := tk_stop HK.out fun x hx => by
        rcases Int.lt_or_le (cd (c0 ea cr) xs k) x.sz with h1 | h1
        · exact h1
        · have hkl := (List.getElem?_eq_some_iff.1 hx).1
          exact absurd ⟨by rw [← HL.out]; exact hkl, fun y hy => by rw [hx] at hy; injection hy with hy; subst hy; exact h1⟩ hlt
      have hk0 : (0 : Int) ≤ (k : Int) := Int.natCast_nonneg _
      have hk1 : (k : Int) ≤ (n : Int) := by omega
      have hk2 : (n : Int) ≤ (c : Int) := by omega
      have hk3 : (k : Int) ≤ (c : Int) := by omega
      have hbs := hB.size
      have HSL := Lib.hid (show Sl ((wr.alloc (.cells #[] 27)).drew) w.heap.size 3 (if c = k then A else A.map (·.add (k * 3))) (n - k) ((xs.drop k).flatMap Wt.c) from by
        have h5 := Sl.drop_ (k := k) (c := c) (Wts.below h hB) hk hnc
        rw [flat_drop] at h5
        exact h5.alloc hbs _)
      have HE := Lib.hid (show ((wr.alloc (.cells #[] 27)).drew).ownsRow wr.heap.size 27 3 (.slice (some ⟨wr.heap.size, 0, none⟩) 0 0) 0 [] from own_empty wr wr.heap.size 27 3 (Nat.le_refl _))
      have hnext : nx ea cr xs = cd (c0 ea cr) xs k := by unfold nx; rw [hkt]
      have hrs : rs ea cr xs = xs.drop k := by unfold rs; rw [hkt]
      have hsn : sn ea cr xs = xs.take k := by unfold sn; rw [hkt]
      have HNX := Lib.hid hnext
      have HRS := Lib.hid hrs
      have HSN := Lib.hid hsn
      have HKT := Lib.hid hkt
      clear hnext hrs hsn hkt
      have hRl := hR.lt
      by_cases hkn : k < n
      · have e0 : decide (k < n) = true := by simpa using hkn
        obtain ⟨x, hx⟩ : ∃ x, xs[k]? = some x := ⟨_, List.getElem?_eq_getElem (by rw [HL.out]; exact hkn)⟩
        have e1 : decide (x.sz ≤ cd (c0 ea cr) xs k) = false := by
          rcases Int.lt_or_le (cd (c0 ea cr) xs k) x.sz with h1 | h1
          · simpa using h1
          · exact absurd ⟨hkn, fun y hy => by rw [hx] at hy; injection hy with hy; subst hy; exact h1⟩ hlt
        obtain ⟨b, off, rfl, hb, hcell⟩ := h.addr (by omega)
        obtain ⟨c0', c1', c2'⟩ := hcell k x hx
        replace c0' := (hB.cell (p := ⟨b, off + k * 3, none⟩) hb).trans c0'
        replace c1' := (hB.cell (p := ⟨b, off + k * 3 + 1, none⟩) hb).trans c1'
        replace c2' := (hB.cell (p := ⟨b, off + k * 3 + 2, none⟩) hb).trans c2'
        have HSL2 := Lib.hid (show Sl ((wr.alloc (.cells #[] 27)).drew) w.heap.size 3 (some ⟨b, off + k * 3, none⟩) (n - k) ((xs.drop k).flatMap Wt.c) from by
          have := HSL.out
          rw [if_neg (by omega)] at this
          simpa [add_plain] using this)
        have hck : ¬ c = k := by omega
        clear hcell hx hlt
        generalize cd (c0 ea cr) xs k = z at *
        go_wp2_with fail
        go_region_held3 (fun w' => w'.cell? ⟨w.heap.size, 0, none⟩ = some (.int .i64 ea) ∧ w'.cell? ⟨w.heap.size, 1, none⟩ = some (.int .i64 cr) ∧ w'.cell? ⟨w.heap.size, 2, none⟩ = some (.slice (some ⟨b, off, none⟩) n c)) ((first | go_keep | (repeat' (first | assumption | apply And.intro | rw [World.cell?_setCell_other _ _ _ _ (fun e => by injection e; omega)]))))
          ((refine step_app _ (by rfl) _ _ _ (by rfl) wr.heap.size 27 i0 _ 3 24 Try.underlying23 hi0 hz0 hz1 hz2 rfl (by omega) _ 0 [] (by rfl) HE.out w.heap.size _ (n - k) (c - k) _ (by rfl) HSL2.out (one_wts _) (by unfold maxLen; omega) (by omega) (by simp) ?_; intro v2 w2 hown2 hgrow hat; simp only [Nat.zero_add, List.nil_append] at hown2; have hBN := Below.grown_own (((Below.refl wr.heap.size wr).alloc (Nat.le_refl _) (.cells #[] 27)).drew) hgrow HE.out (Nat.le_refl _) (by simp); have hR2 := (hR.alloc (.cells #[] 27)).drew.grown_own hgrow HE.out (by omega); have hP2 := (hP.alloc (.cells #[] 27)).drew.grown_own hgrow HE.out (by omega); have P0 := hP2.cell 0; have P1 := hP2.cell 1; have P2 := hP2.cell 2; have R0 := hR2.cell 0; have R1 := hR2.cell 1; have R2 := hR2.cell 2; have F0 := hR2.frozen 0; have F1 := hR2.frozen 1; have F2 := hR2.frozen 2; simp only [List.getElem?_toArray, List.getElem?_cons_zero, List.getElem?_cons_succ] at P0 P1 P2 R0 R1 R2; obtain ⟨A2, c2, rfl, -⟩ := own_shape hown2))
        clear P0 P1 P2 R0 R1 R2 F0 F1 F2
        have HT := Lib.hid (ticked_end (w := w) (R := w.heap.size + 1) HKT.out (by rw [HL.out]; exact hk) (by rw [HL.out]) HOW.out hB hBN hown2 ((((Only.refl (w.heap.size + 1) w2).setCell (p := ⟨w.heap.size + 1, 0, none⟩) (.inl rfl) (.int .i64 ea)).setCell (p := ⟨w.heap.size + 1, 1, none⟩) (.inl rfl) (.int .i64 z)).setCell (p := ⟨w.heap.size + 1, 2, none⟩) (.inl rfl) (.slice A2 (n - k) c2)) (by omega) (by omega) (by omega))
        clear hown2 hgrow hat hBN
        (try clear hR2_c0); (try clear hR2_f0)
        (try clear hR2_c1); (try clear hR2_f1)
        (try clear hR2_c2); (try clear hR2_f2)
        (try clear hR2_lt)
        have hR2_lt := hR2.lt; (try simp only [World.size_alloc] at hR2_lt)
        have hR2_c0 := hR2.cell 0; have hR2_f0 := hR2.frozen 0
        have hR2_c1 := hR2.cell 1; have hR2_f1 := hR2.frozen 1
        have hR2_c2 := hR2.cell 2; have hR2_f2 := hR2.frozen 2
        simp only [List.getElem?_toArray, List.getElem?_cons_zero, List.getElem?_cons_succ] at hR2_c0 hR2_c1 hR2_c2
        go_wp2
        refine ⟨rfl, ?_⟩
        apply Exists.intro
        apply And.intro
        · simp [results, Try.results44, go_sem, hR2_c0, hR2_c1, hR2_c2, hR2_lt]; exact rfl
        · exact ⟨_, _, by rw [HNX.out], HT.out⟩
      · have hkn' : k = n := by omega
        subst hkn'
        have hd0 : xs.drop k = [] := List.drop_eq_nil_of_le (by rw [HL.out]; exact Nat.le_refl _)
        have HD0 := Lib.hid hd0
        clear hd0 hlt hkn
        generalize cd (c0 ea cr) xs k = z at *
        by_cases hck : c = k
        all_goals
          go_wp2_with fail
          go_region_held3 (fun w' => w'.cell? ⟨w.heap.size, 0, none⟩ = some (.int .i64 ea) ∧ w'.cell? ⟨w.heap.size, 1, none⟩ = some (.int .i64 cr) ∧ w'.cell? ⟨w.heap.size, 2, none⟩ = some (.slice A k c)) ((first | go_keep | (repeat' (first | assumption | apply And.intro | rw [World.cell?_setCell_other _ _ _ _ (fun e => by injection e; omega)]))))
            ((refine step_app _ (by rfl) _ _ _ (by rfl) wr.heap.size 27 i0 _ 3 24 Try.underlying23 hi0 hz0 hz1 hz2 rfl (by omega) _ 0 [] (by rfl) HE.out 0 _ 0 _ [] (by rfl) Sl.none_ (by simp) (by unfold maxLen; omega) (by omega) (by simp) ?_; intro v2 w2 hown2 hgrow hat; simp only [Nat.zero_add, List.nil_append] at hown2; have hBN := Below.grown_own (((Below.refl wr.heap.size wr).alloc (Nat.le_refl _) (.cells #[] 27)).drew) hgrow HE.out (Nat.le_refl _) (by simp); have hR2 := (hR.alloc (.cells #[] 27)).drew.grown_own hgrow HE.out (by omega); have hP2 := (hP.alloc (.cells #[] 27)).drew.grown_own hgrow HE.out (by omega); have P0 := hP2.cell 0; have P1 := hP2.cell 1; have P2 := hP2.cell 2; have R0 := hR2.cell 0; have R1 := hR2.cell 1; have R2 := hR2.cell 2; have F0 := hR2.frozen 0; have F1 := hR2.frozen 1; have F2 := hR2.frozen 2; simp only [List.getElem?_toArray, List.getElem?_cons_zero, List.getElem?_cons_succ] at P0 P1 P2 R0 R1 R2; obtain ⟨A2, c2, rfl, -⟩ := own_shape hown2))
          clear P0 P1 P2 R0 R1 R2 F0 F1 F2
          have HT := Lib.hid (ticked_end (m := 0) (w := w) (R := w.heap.size + 1) HKT.out (by rw [HL.out]; exact hk) (by rw [HL.out, Nat.sub_self]) HOW.out hB hBN (by rw [HD0.out]; exact hown2) ((((Only.refl (w.heap.size + 1) w2).setCell (p := ⟨w.heap.size + 1, 0, none⟩) (.inl rfl) (.int .i64 ea)).setCell (p := ⟨w.heap.size + 1, 1, none⟩) (.inl rfl) (.int .i64 z)).setCell (p := ⟨w.heap.size + 1, 2, none⟩) (.inl rfl) (.slice A2 0 c2)) (by omega) (by omega) (by omega))
          clear hown2 hgrow hat hBN
          (try clear hR2_c0); (try clear hR2_f0)
          (try clear hR2_c1); (try clear hR2_f1)
          (try clear hR2_c2); (try clear hR2_f2)
          (try clear hR2_lt)
          have hR2_lt := hR2.lt; (try simp only [World.size_alloc] at hR2_lt)
          have hR2_c0 := hR2.cell 0; have hR2_f0 := hR2.frozen 0
          have hR2_c1 := hR2.cell 1; have hR2_f1 := hR2.frozen 1
          have hR2_c2 := hR2.cell 2; have hR2_f2 := hR2.frozen 2
          simp only [List.getElem?_toArray, List.getElem?_cons_zero, List.getElem?_cons_succ] at hR2_c0 hR2_c1 hR2_c2
          go_wp2
          refine ⟨rfl, ?_⟩
          apply Exists.intro
          apply And.intro
          · simp [results, Try.results44, go_sem, hR2_c0, hR2_c1, hR2_c2, hR2_lt]; exact rfl
          · exact ⟨_, _, by rw [HNX.out], HT.out⟩
end Go.Proofs.Ytilokgloocbbnaa
