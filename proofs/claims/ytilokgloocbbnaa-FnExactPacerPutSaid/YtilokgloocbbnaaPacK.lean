/-
  PacerTick of the program.
  Conditions: as each theorem states them.
-/
import Derived.Deep.RegionHeld3
import Derived.Test.YtilokgloocbbnaaRows
import Derived.Test.YtilokgloocbbnaaLib
import Derived.Test.YtilokgloocbbnaaOwn
import Derived.Test.YtilokgloocbbnaaBut
import Derived.Test.YtilokgloocbbnaaDraw
import Derived.Test.YtilokgloocbbnaaInv
import Derived.Test.YtilokgloocbbnaaSlots
import Derived.Test.YtilokgloocbbnaaApp
import Derived.Test.YtilokgloocbbnaaPac
import Derived.Test.YtilokgloocbbnaaPacB
import Derived.Test.YtilokgloocbbnaaPacP
import Derived.Test.YtilokgloocbbnaaPacE
import Derived.Test.YtilokgloocbbnaaPacF
import Derived.Test.YtilokgloocbbnaaPacG
import Derived.Test.YtilokgloocbbnaaPacI
import Derived.Test.YtilokgloocbbnaaPacJ
import Derived.Outline
namespace Go.Proofs.Ytilokgloocbbnaa
open Go.RowKit
set_option linter.unusedVariables false
set_option linter.unusedSimpArgs false

theorem QR.keep {TQ : TypeId} {X : Nat → Prop} {w w' : World} {bq B B' : Nat} {v : Nat → Value} {q : Nat → List Wt} (h : QR TQ w bq B v q) (hb : But X w w') (hX : ∀ k, k < B → ¬ X k) (hq : ¬ X bq) (hB : B ≤ B') : QR TQ w' bq B' v q :=
  ⟨h.1.but hb hq, fun i hi => by
    obtain ⟨A, c, e, h1, h2, h3, h4⟩ := h.2 i hi
    refine ⟨A, c, e, h1, h2, ?_, h4⟩
    refine Sl.more ⟨h3.1, fun hn => ?_⟩ hB
    obtain ⟨b, off, e2, hlt, hc⟩ := h3.2 hn
    exact ⟨b, off, e2, hlt, fun j u hu => hb.cell (hc j u hu) (hX b hlt)⟩⟩
theorem QR.below_more {TQ : TypeId} {w w' : World} {bq B B' N : Nat} {v : Nat → Value} {q : Nat → List Wt} (h : QR TQ w bq B v q) (hb : Below N w w') (hN : B ≤ N) (hq : bq < N) (hB : B ≤ B') : QR TQ w' bq B' v q :=
  h.keep (But.of_below (X := fun k => N ≤ k) hb fun _ _ h => h) (fun k hk h => by omega) (by omega) hB
theorem drop_cons {α : Type} {xs L : List α} {k : Nat} {x : α} (h : xs.drop k = x :: L) : xs[k]? = some x ∧ xs.drop (k + 1) = L := by
  constructor
  · have : (xs.drop k)[0]? = some x := by rw [h]; rfl
    rwa [List.getElem?_drop] at this
  · have : (xs.drop k).drop 1 = L := by rw [h]; rfl
    rwa [List.drop_drop] at this

set_option maxHeartbeats 4000000 in
theorem itick_bad (ea cr : Int) (A : Option Addr) (n c : Nat) (xs : List Wt) (w : World) (h : Wts w w.heap.size A n xs) (hn : n ≤ 1099511627776) (hno : ¬ pOk ea cr xs) :
    Calls Try.prog 20 #[.agg #[.int .i64 ea, .int .i64 cr, .slice A n c]] w (tickBad w) := by
  have hP := (Bk.new w 25 #[.int .i64 ea, .int .i64 cr, .slice A n c]).alloc (.cells #[.int .i64 0, .int .i64 0, .slice none 0 0] 25)
  have hR := Bk.new (w.alloc (.cells #[.int .i64 ea, .int .i64 cr, .slice A n c] 25)) 25 #[.int .i64 0, .int .i64 0, .slice none 0 0]
  simp only [World.size_alloc] at hR
  have hv := fun w h => ipv_any ea cr A n c xs w h hn
  rw [pB_false.2 hno] at hv
  have HV := Lib.hid hv
  clear hv hno
  go_enter Try.func20, Try.ntmps20
  go_wp2_with fail
  refine (HV.out _ ?_).mono ?_
  · exact (Wts.below h (by repeat (first | exact Below.refl _ _ | assumption | refine Below.setCell ?_ (by first | omega | (simp; done) | (simp; omega)) _ | refine Below.alloc ?_ (by first | omega | (simp; done) | (simp; omega)) _ | refine Below.drew ?_ | refine Below.drewN' ?_ _ | refine Below.trans ?_ (Below.mono (by assumption) (by first | omega | (simp; done) | (simp; omega)))))).more (by simp; omega)
  rintro y w1 ⟨rfl, hb1⟩
  replace hP := hP.below hb1 (by first | omega | exact hP.lt | (simp; done) | (simp; omega))
  (try clear hP_c0); (try clear hP_f0)
  (try clear hP_c1); (try clear hP_f1)
  (try clear hP_c2); (try clear hP_f2)
  (try clear hP_lt)
  have hP_lt := hP.lt; (try simp only [World.size_alloc] at hP_lt)
  have hP_c0 := hP.cell 0; have hP_f0 := hP.frozen 0
  have hP_c1 := hP.cell 1; have hP_f1 := hP.frozen 1
  have hP_c2 := hP.cell 2; have hP_f2 := hP.frozen 2
  simp only [List.getElem?_toArray, List.getElem?_cons_zero, List.getElem?_cons_succ] at hP_c0 hP_c1 hP_c2
  replace hR := hR.below hb1 (by first | omega | exact hR.lt | (simp; done) | (simp; omega))
  (try clear hR_c0); (try clear hR_f0)
  (try clear hR_c1); (try clear hR_f1)
  (try clear hR_c2); (try clear hR_f2)
  (try clear hR_lt)
  have hR_lt := hR.lt; (try simp only [World.size_alloc] at hR_lt)
  have hR_c0 := hR.cell 0; have hR_f0 := hR.frozen 0
  have hR_c1 := hR.cell 1; have hR_f1 := hR.frozen 1
  have hR_c2 := hR.cell 2; have hR_f2 := hR.frozen 2
  simp only [List.getElem?_toArray, List.getElem?_cons_zero, List.getElem?_cons_succ] at hR_c0 hR_c1 hR_c2
  have hB : Below w.heap.size w w1 := (by repeat (first | exact Below.refl _ _ | assumption | refine Below.setCell ?_ (by first | omega | (simp; done) | (simp; omega)) _ | refine Below.alloc ?_ (by first | omega | (simp; done) | (simp; omega)) _ | refine Below.drew ?_ | refine Below.drewN' ?_ _ | refine Below.trans ?_ (Below.mono (by assumption) (by first | omega | (simp; done) | (simp; omega)))))
  clear hb1
  go_wp2
  refine ⟨rfl, ?_⟩
  apply Exists.intro
  apply And.intro
  · simp [results, Try.results20, go_sem, hR_c0, hR_c1, hR_c2, hR_lt]; exact rfl
  · exact ⟨_, rfl, (by repeat (first | exact Below.refl _ _ | assumption | refine Below.setCell ?_ (by first | omega | (simp; done) | (simp; omega)) _ | refine Below.alloc ?_ (by first | omega | (simp; done) | (simp; omega)) _ | refine Below.drew ?_ | refine Below.drewN' ?_ _ | refine Below.trans ?_ (Below.mono (by assumption) (by first | omega | (simp; done) | (simp; omega)))))⟩

set_option maxHeartbeats 8000000 in
theorem itick_good (ea cr : Int) (A : Option Addr) (n c : Nat) (xs : List Wt) (w : World) (h : Wts w w.heap.size A n xs) (hp : pOk ea cr xs) :
    Calls Try.prog 20 #[.agg #[.int .i64 ea, .int .i64 cr, .slice A n c]] w (tick3 ea cr xs w) := by
  have HL := Lib.hid h.len
  have hn12 : n ≤ 12 := by have := hp.2.2.2.2.1; rw [HL.out] at this; exact this
  obtain ⟨i0, hi0, hz0, hz1, hz2⟩ := info_parts wt_info
  have hP := (Bk.new w 25 #[.int .i64 ea, .int .i64 cr, .slice A n c]).alloc (.cells #[.int .i64 0, .int .i64 0, .slice none 0 0] 25)
  have hR := Bk.new (w.alloc (.cells #[.int .i64 ea, .int .i64 cr, .slice A n c] 25)) 25 #[.int .i64 0, .int .i64 0, .slice none 0 0]
  simp only [World.size_alloc] at hR
  have hv := fun w h => ipv_any ea cr A n c xs w h (by omega)
  rw [pB_true.2 hp] at hv
  have HV := Lib.hid hv
  have HP := Lib.hid hp
  have HCLS := Lib.hid (show ∀ y ∈ xs, 0 ≤ y.cl ∧ y.cl ≤ 2 from fun y hy => by have := okTo_mem hp.2.2.2.2.2 hy; exact ⟨this.2.2.1, this.2.2.2.1⟩)
  have HASC := Lib.hid (okTo_asc hp.2.2.2.2.2)
  have HM := Lib.hid (fun x (hx : x ∈ xs) => okTo_mem hp.2.2.2.2.2 hx)
  have HS := Lib.hid (show ∀ x ∈ xs, 0 ≤ x.sz from fun x hx => by have := (HM.out x hx).2.2.2.2.1; omega)
  obtain ⟨p1, p2, p3, p4, -, -⟩ := hp
  clear hv
  have hmn := fun (w : World) (ts : Array TypeId) (t : TypeId) (x y : Int) => run_min_plain (P := Try.prog) w ts t x y
  go_enter Try.func20, Try.ntmps20
  go_wp2_with fail
  refine (HV.out _ ?_).mono ?_
  · exact (Wts.below h (by repeat (first | exact Below.refl _ _ | assumption | refine Below.setCell ?_ (by first | omega | (simp; done) | (simp; omega)) _ | refine Below.alloc ?_ (by first | omega | (simp; done) | (simp; omega)) _ | refine Below.drew ?_ | refine Below.drewN' ?_ _ | refine Below.trans ?_ (Below.mono (by assumption) (by first | omega | (simp; done) | (simp; omega)))))).more (by simp; omega)
  rintro y w1 ⟨rfl, hb1⟩
  replace hP := hP.below hb1 (by first | omega | exact hP.lt | (simp; done) | (simp; omega))
  (try clear hP_c0); (try clear hP_f0)
  (try clear hP_c1); (try clear hP_f1)
  (try clear hP_c2); (try clear hP_f2)
  (try clear hP_lt)
  have hP_lt := hP.lt; (try simp only [World.size_alloc] at hP_lt)
  have hP_c0 := hP.cell 0; have hP_f0 := hP.frozen 0
  have hP_c1 := hP.cell 1; have hP_f1 := hP.frozen 1
  have hP_c2 := hP.cell 2; have hP_f2 := hP.frozen 2
  simp only [List.getElem?_toArray, List.getElem?_cons_zero, List.getElem?_cons_succ] at hP_c0 hP_c1 hP_c2
  replace hR := hR.below hb1 (by first | omega | exact hR.lt | (simp; done) | (simp; omega))
  (try clear hR_c0); (try clear hR_f0)
  (try clear hR_c1); (try clear hR_f1)
  (try clear hR_c2); (try clear hR_f2)
  (try clear hR_lt)
  have hR_lt := hR.lt; (try simp only [World.size_alloc] at hR_lt)
  have hR_c0 := hR.cell 0; have hR_f0 := hR.frozen 0
  have hR_c1 := hR.cell 1; have hR_f1 := hR.frozen 1
  have hR_c2 := hR.cell 2; have hR_f2 := hR.frozen 2
  simp only [List.getElem?_toArray, List.getElem?_cons_zero, List.getElem?_cons_succ] at hR_c0 hR_c1 hR_c2
  have hB : Below w.heap.size w w1 := (by repeat (first | exact Below.refl _ _ | assumption | refine Below.setCell ?_ (by first | omega | (simp; done) | (simp; omega)) _ | refine Below.alloc ?_ (by first | omega | (simp; done) | (simp; omega)) _ | refine Below.drew ?_ | refine Below.drewN' ?_ _ | refine Below.trans ?_ (Below.mono (by assumption) (by first | omega | (simp; done) | (simp; omega)))))
  clear hb1
  have hbs := hB.size
  have hRl1 : w.heap.size + 1 < w1.heap.size := hR.lt
  go_wp2_with fail
  refine (nwq_any A n c xs w1 ((Wts.below h hB).more hbs) (by omega) HCLS.out).mono ?_
  rintro y w2 ⟨rfl, ⟨v, hq⟩, hb2⟩
  replace hP := hP.below hb2 (by first | omega | exact hP.lt | (simp; done) | (simp; omega))
  (try clear hP_c0); (try clear hP_f0)
  (try clear hP_c1); (try clear hP_f1)
  (try clear hP_c2); (try clear hP_f2)
  (try clear hP_lt)
  have hP_lt := hP.lt; (try simp only [World.size_alloc] at hP_lt)
  have hP_c0 := hP.cell 0; have hP_f0 := hP.frozen 0
  have hP_c1 := hP.cell 1; have hP_f1 := hP.frozen 1
  have hP_c2 := hP.cell 2; have hP_f2 := hP.frozen 2
  simp only [List.getElem?_toArray, List.getElem?_cons_zero, List.getElem?_cons_succ] at hP_c0 hP_c1 hP_c2
  replace hR := hR.below hb2 (by first | omega | exact hR.lt | (simp; done) | (simp; omega))
  (try clear hR_c0); (try clear hR_f0)
  (try clear hR_c1); (try clear hR_f1)
  (try clear hR_c2); (try clear hR_f2)
  (try clear hR_lt)
  have hR_lt := hR.lt; (try simp only [World.size_alloc] at hR_lt)
  have hR_c0 := hR.cell 0; have hR_f0 := hR.frozen 0
  have hR_c1 := hR.cell 1; have hR_f1 := hR.frozen 1
  have hR_c2 := hR.cell 2; have hR_f2 := hR.frozen 2
  simp only [List.getElem?_toArray, List.getElem?_cons_zero, List.getElem?_cons_succ] at hR_c0 hR_c1 hR_c2
  have hB2 := hB.trans (hb2.mono hbs)
  have hqb : w1.heap.size < w2.heap.size := hq.1.lt
  have HQ0 := Lib.hid hq.qr
  have hbs2 := hB2.size
  clear hq hb2
  have HOWN := Lib.hid (own_empty w2 w2.heap.size 27 3 (Nat.le_refl _))
  go_wp2_with fail
  have hc0 : c0 ea cr = min (cr + ea) 3000 := rfl
  have hP0 := hP.alloc (.cells #[] 27)
  have hR0 := hR.alloc (.cells #[] 27)
  have HCB := Lib.hid (show 0 ≤ c0 ea cr ∧ c0 ea cr ≤ 3000 by rw [hc0]; omega)
  have HQ := Lib.hid (HQ0.out.below_more ((Below.refl w2.heap.size w2).alloc (Nat.le_refl _) (.cells #[] 27)) (Nat.le_refl _) hqb (Nat.le_refl _))
  have hB0 := hB2.alloc hbs2 (.cells #[] 27)
  rw [← hc0]
  clear hc0 hP hR HQ0
  go_loopw [6, 7] (fun z u wr => ∃ (k : Nat) (v : Nat → Value) (q : Nat → List Wt), k ≤ n ∧ Hid (k ≤ tk (c0 ea cr) xs) ∧ z = .int .i64 (cd (c0 ea cr) xs k) ∧ wr.ownsRow w2.heap.size 27 3 u k ((xs.take k).flatMap Wt.c) ∧ QR 74 wr w1.heap.size w2.heap.size v q ∧ Hid (join q = xs.drop k) ∧ w2.heap.size ≤ wr.heap.size ∧ Bk wr w.heap.size 25 #[.int .i64 ea, .int .i64 cr, .slice A n c] ∧ Bk wr (w.heap.size + 1) 25 #[.int .i64 0, .int .i64 0, .slice none 0 0] ∧ Below w.heap.size w wr) (fun z _ _ => (intOf z).toNat)
  case atStart => exact ⟨0, _, _, by omega, Lib.hid (by omega), by rw [cd_zero], by simpa using HOWN.out, HQ.out, Lib.hid (by rw [join_cls HASC.out HCLS.out]; rfl), by simp, hP0, hR0, hB0⟩
  case round =>
    obtain ⟨k, v, q, hk, HK, rfl, hown, hqr, HJ, hws, hP, hR, hB⟩ := hrel
    clear hP0 hR0 hB0
    have hz := cd_bd HK.out HCB.out.1 HS.out
    have hzz0 := hz.1
    have hzz1 : cd (c0 ea cr) xs k ≤ 3000 := by have := HCB.out.2; omega
    clear hz
    have HOW := Lib.hid hown
    have HQR := Lib.hid hqr
    clear hown hqr
    (try clear hP_c0); (try clear hP_f0)
    (try clear hP_c1); (try clear hP_f1)
    (try clear hP_c2); (try clear hP_f2)
    (try clear hP_lt)
    have hP_lt := hP.lt; (try simp only [World.size_alloc] at hP_lt)
    have hP_c0 := hP.cell 0; have hP_f0 := hP.frozen 0
    have hP_c1 := hP.cell 1; have hP_f1 := hP.frozen 1
    have hP_c2 := hP.cell 2; have hP_f2 := hP.frozen 2
    simp only [List.getElem?_toArray, List.getElem?_cons_zero, List.getElem?_cons_succ] at hP_c0 hP_c1 hP_c2
    (try clear hR_c0); (try clear hR_f0)
    (try clear hR_c1); (try clear hR_f1)
    (try clear hR_c2); (try clear hR_f2)
    (try clear hR_lt)
    have hR_lt := hR.lt; (try simp only [World.size_alloc] at hR_lt)
    have hR_c0 := hR.cell 0; have hR_f0 := hR.frozen 0
    have hR_c1 := hR.cell 1; have hR_f1 := hR.frozen 1
    have hR_c2 := hR.cell 2; have hR_f2 := hR.frozen 2
    simp only [List.getElem?_toArray, List.getElem?_cons_zero, List.getElem?_cons_succ] at hR_c0 hR_c1 hR_c2
    by_cases hyes : ∃ x L, xs.drop k = x :: L ∧ x.sz ≤ cd (c0 ea cr) xs k
    · obtain ⟨x, L, hxl, hle⟩ := hyes
      obtain ⟨hx, hL⟩ := drop_cons hxl
      have hkl : k < xs.length := (List.getElem?_eq_some_iff.1 hx).1
      have hkn : k < n := by rw [← HL.out]; exact hkl
      have hxs := (HM.out x (List.mem_of_getElem? hx)).2.2.2.2.1
      have hxs2 := (HM.out x (List.mem_of_getElem? hx)).2.2.2.2.2
      have HX := Lib.hid hx
      have HCD := Lib.hid (cd_succ (c := c0 ea cr) hx)
      have HKS := Lib.hid (tk_succ HK.out hx hle)
      have HTK := Lib.hid (show (xs.take (k + 1)).flatMap Wt.c = (xs.take k).flatMap Wt.c ++ x.c by
        have hxx := (List.getElem?_eq_some_iff.1 hx).2
        rw [List.take_succ_eq_append_getElem hkl, hxx]
        simp)
      have HXL := Lib.hid hxl
      have HLL := Lib.hid hL
      clear hx hxl hL hkl
      generalize cd (c0 ea cr) xs k = z at *
      go_wp2_with fail
      refine (take_yes wr _ _ v q z x L HQR.out hws (by rw [HJ.out, HXL.out]) hle).mono ?_
      rintro y w3 ⟨rfl, ⟨v', q', hq', hj'⟩, ho⟩
      have hs3 := ho.size
      have hB3 : Below w.heap.size w w3 := hB.trans (ho.below (by omega) (by omega))
      have hown3 := own_only HOW.out ho hqb
      replace hP := hP.only ho (by first | omega | (simp; done) | (simp; omega))
      (try clear hP_c0); (try clear hP_f0)
      (try clear hP_c1); (try clear hP_f1)
      (try clear hP_c2); (try clear hP_f2)
      (try clear hP_lt)
      have hP_lt := hP.lt; (try simp only [World.size_alloc] at hP_lt)
      have hP_c0 := hP.cell 0; have hP_f0 := hP.frozen 0
      have hP_c1 := hP.cell 1; have hP_f1 := hP.frozen 1
      have hP_c2 := hP.cell 2; have hP_f2 := hP.frozen 2
      simp only [List.getElem?_toArray, List.getElem?_cons_zero, List.getElem?_cons_succ] at hP_c0 hP_c1 hP_c2
      replace hR := hR.only ho (by first | omega | (simp; done) | (simp; omega))
      (try clear hR_c0); (try clear hR_f0)
      (try clear hR_c1); (try clear hR_f1)
      (try clear hR_c2); (try clear hR_f2)
      (try clear hR_lt)
      have hR_lt := hR.lt; (try simp only [World.size_alloc] at hR_lt)
      have hR_c0 := hR.cell 0; have hR_f0 := hR.frozen 0
      have hR_c1 := hR.cell 1; have hR_f1 := hR.frozen 1
      have hR_c2 := hR.cell 2; have hR_f2 := hR.frozen 2
      simp only [List.getElem?_toArray, List.getElem?_cons_zero, List.getElem?_cons_succ] at hR_c0 hR_c1 hR_c2
      have HOW3 := Lib.hid hown3
      have HQ3 := Lib.hid hq'
      have HJ3 := Lib.hid hj'
      have hWB : Below w3.heap.size w3 ((w3.alloc (.cells #[.int .i64 x.id, .int .i64 x.cl, .int .i64 x.sz] 27)).alloc (.cells #[.int .i64 x.id, .int .i64 x.cl, .int .i64 x.sz] 27)) := (by repeat (first | exact Below.refl _ _ | assumption | refine Below.setCell ?_ (by first | omega | (simp; done) | (simp; omega)) _ | refine Below.alloc ?_ (by first | omega | (simp; done) | (simp; omega)) _ | refine Below.drew ?_ | refine Below.drewN' ?_ _ | refine Below.trans ?_ (Below.mono (by assumption) (by first | omega | (simp; done) | (simp; omega)))))
      have HNB := Lib.hid (show Sl ((w3.alloc (.cells #[.int .i64 x.id, .int .i64 x.cl, .int .i64 x.sz] 27)).alloc (.cells #[.int .i64 x.id, .int .i64 x.cl, .int .i64 x.sz] 27)) (w3.heap.size + 1 + 1) 3 (some ⟨w3.heap.size + 1, 0, none⟩) 1 x.c from ⟨rfl, fun _ => ⟨w3.heap.size + 1, 0, rfl, by omega, fun j u hu => by
        have := (Bk.new (w3.alloc (.cells #[.int .i64 x.id, .int .i64 x.cl, .int .i64 x.sz] 27)) 27 #[.int .i64 x.id, .int .i64 x.cl, .int .i64 x.sz]).cell j
        simp only [World.size_alloc] at this
        rw [Nat.zero_add, this]; simpa [Wt.c] using hu⟩⟩)
      clear hown3 hq' hj' ho
      go_wp2_with (at_builtin; refine wpList_app _ rfl _ _ 23 rfl w2.heap.size 27 i0 (.agg #[.int .i64 0, .int .i64 0, .int .i64 0]) 3 24 Try.underlying23 hi0 hz0 hz1 hz2 rfl (by omega) _ k _ rfl ((HOW3.out.alloc _).alloc _) (w3.heap.size + 1 + 1) (some ⟨w3.heap.size + 1, 0, none⟩) 1 1 _ rfl HNB.out (one_wt x) (by unfold maxLen; omega) (by omega) (by simp; omega) ?_; intro v2 w4 hown2 hgrow hat)
      rw [← HTK.out] at hown2
      have HO2 := Lib.hid hown2
      have hb4 : Below w2.heap.size w3 w4 := Below.grown_own (hWB.mono (by omega)) hgrow ((HOW3.out.alloc _).alloc _) (Nat.le_refl _) (by simp; omega)
      have HQ4 := Lib.hid (HQ3.out.below_more hb4 (Nat.le_refl _) hqb (Nat.le_refl _))
      have hs4 := hb4.size
      replace hP := hP.below hb4 (by first | omega | exact hP.lt | (simp; done) | (simp; omega))
      replace hR := hR.below hb4 (by first | omega | exact hR.lt | (simp; done) | (simp; omega))
      have hB4 := hB3.trans (hb4.mono hbs2)
      clear hown2 hgrow hat hb4
      go_wp2
      go_roundw
      case rel => exact ⟨k + 1, v', q', by omega, HKS, by rw [HCD.out], HO2.out, HQ4.out, Lib.hid (by rw [HJ3.out, HLL.out]), by omega, hP, hR, hB4⟩
      case measure => simp [intOf]; omega
    · have hkt : tk (c0 ea cr) xs = k := tk_stop HK.out fun x hx => by
        rcases Int.lt_or_le (cd (c0 ea cr) xs k) x.sz with h1 | h1
        · exact h1
        · have hkl := (List.getElem?_eq_some_iff.1 hx).1
          exact absurd ⟨x, xs.drop (k + 1), by rw [← (List.getElem?_eq_some_iff.1 hx).2]; exact List.drop_eq_getElem_cons hkl, h1⟩ hyes
      have HNO := Lib.hid (show ∀ x L, join q = x :: L → cd (c0 ea cr) xs k < x.sz from fun x L hj => by
        rcases Int.lt_or_le (cd (c0 ea cr) xs k) x.sz with h1 | h1
        · exact h1
        · exact absurd ⟨x, L, by rw [← HJ.out, hj], h1⟩ hyes)
      have HNX := Lib.hid (show nx ea cr xs = cd (c0 ea cr) xs k by unfold nx; rw [hkt])
      have HKT := Lib.hid hkt
      have hjl : (join q).length = xs.length - k := by rw [HJ.out, List.length_drop]
      have HJL := Lib.hid hjl
      clear hyes hkt hjl
      generalize cd (c0 ea cr) xs k = z at *
      go_wp2_with fail
      refine (take_no wr _ _ v q z HQR.out hws HNO.out).mono ?_
      rintro y w3 ⟨rfl, hb3⟩
      have hs3 := hb3.size
      have hRw : w.heap.size + 1 < wr.heap.size := hR_lt
      replace hP := hP.below hb3 (by first | omega | exact hP.lt | (simp; done) | (simp; omega))
      replace hR := hR.below hb3 (by first | omega | exact hR.lt | (simp; done) | (simp; omega))
      have hPz := hP.alloc (.cells #[.int .i64 0, .int .i64 0, .int .i64 0] 27)
      have hRz := hR.alloc (.cells #[.int .i64 0, .int .i64 0, .int .i64 0] 27)
      have hbz : Below wr.heap.size wr (w3.alloc (.cells #[.int .i64 0, .int .i64 0, .int .i64 0] 27)) := hb3.alloc hs3 _
      have HQA := Lib.hid (HQR.out.below_more (B' := (w3.alloc (.cells #[.int .i64 0, .int .i64 0, .int .i64 0] 27)).drew.heap.size) hbz.drew hws (by omega) (by show _ ≤ (w3.alloc _).heap.size; simp; omega))
      have HLN := Lib.hid (show (join q).length ≤ 1099511627776 by rw [HJL.out, HL.out]; omega)
      (try clear hP_c0); (try clear hP_f0)
      (try clear hP_c1); (try clear hP_f1)
      (try clear hP_c2); (try clear hP_f2)
      (try clear hP_lt)
      have hP_lt := hP.lt; (try simp only [World.size_alloc] at hP_lt)
      have hP_c0 := hP.cell 0; have hP_f0 := hP.frozen 0
      have hP_c1 := hP.cell 1; have hP_f1 := hP.frozen 1
      have hP_c2 := hP.cell 2; have hP_f2 := hP.frozen 2
      simp only [List.getElem?_toArray, List.getElem?_cons_zero, List.getElem?_cons_succ] at hP_c0 hP_c1 hP_c2
      (try clear hR_c0); (try clear hR_f0)
      (try clear hR_c1); (try clear hR_f1)
      (try clear hR_c2); (try clear hR_f2)
      (try clear hR_lt)
      have hR_lt := hR.lt; (try simp only [World.size_alloc] at hR_lt)
      have hR_c0 := hR.cell 0; have hR_f0 := hR.frozen 0
      have hR_c1 := hR.cell 1; have hR_f1 := hR.frozen 1
      have hR_c2 := hR.cell 2; have hR_f2 := hR.frozen 2
      simp only [List.getElem?_toArray, List.getElem?_cons_zero, List.getElem?_cons_succ] at hR_c0 hR_c1 hR_c2
      go_wp2_with fail
      have hPz0 := hPz.cell 0
      have hPz1 := hPz.cell 1
      have hRzl := hRz.lt
      simp only [List.getElem?_toArray, List.getElem?_cons_zero, List.getElem?_cons_succ] at hPz0 hPz1
      go_region_held3 (fun w' => w'.cell? ⟨w.heap.size, 0, none⟩ = some (.int .i64 ea) ∧ w'.cell? ⟨w.heap.size, 1, none⟩ = some (.int .i64 cr)) ((first | go_keep | (repeat' (first | assumption | apply And.intro | rw [World.cell?_setCell_other _ _ _ _ (fun e => by injection e; omega)]))))
        ((go_at_call 40; refine (all_any (w3.alloc (.cells #[.int .i64 0, .int .i64 0, .int .i64 0] 27)).drew _ v q HQA.out HLN.out).mono ?_; rintro y w5 ⟨u5, rfl, hown5, hb5⟩; obtain ⟨A5, c5, rfl, -⟩ := own_shape hown5; have hR5 := hRz.drew.below hb5 hRz.lt; have hP5 := hPz.drew.below hb5 hPz.lt; have P0 := hP5.cell 0; have P1 := hP5.cell 1; have R0 := hR5.cell 0; have R1 := hR5.cell 1; have R2 := hR5.cell 2; have F0 := hR5.frozen 0; have F1 := hR5.frozen 1; have F2 := hR5.frozen 2; simp only [List.getElem?_toArray, List.getElem?_cons_zero, List.getElem?_cons_succ] at P0 P1 R0 R1 R2))
      clear P0 P1 R0 R1 R2 F0 F1 F2
      have hs5 : w3.heap.size + 1 ≤ w5.heap.size := by have := hb5.size; simpa using this
      have hbF : Below wr.heap.size wr w5 := hbz.drew.trans (hb5.mono (by show wr.heap.size ≤ (w3.alloc _).heap.size; simp; omega))
      have HT := Lib.hid (ticked_end (v := .slice A5 (join q).length c5) (m := (join q).length) (w := w) (R := w.heap.size + 1) HKT.out (by rw [HL.out]; exact hk) HJL.out HOW.out hB hbF (by rw [← HJ.out]; exact own_more hown5 (by show wr.heap.size ≤ (w3.alloc _).heap.size; simp; omega)) ((((Only.refl (w.heap.size + 1) w5).setCell (p := ⟨w.heap.size + 1, 0, none⟩) (.inl rfl) (.int .i64 ea)).setCell (p := ⟨w.heap.size + 1, 1, none⟩) (.inl rfl) (.int .i64 z)).setCell (p := ⟨w.heap.size + 1, 2, none⟩) (.inl rfl) (.slice A5 (join q).length c5)) (by omega) (by omega) (by omega))
      clear hown5 hb5 hbF
      (try clear hR5_c0); (try clear hR5_f0)
      (try clear hR5_c1); (try clear hR5_f1)
      (try clear hR5_c2); (try clear hR5_f2)
      (try clear hR5_lt)
      have hR5_lt := hR5.lt; (try simp only [World.size_alloc] at hR5_lt)
      have hR5_c0 := hR5.cell 0; have hR5_f0 := hR5.frozen 0
      have hR5_c1 := hR5.cell 1; have hR5_f1 := hR5.frozen 1
      have hR5_c2 := hR5.cell 2; have hR5_f2 := hR5.frozen 2
      simp only [List.getElem?_toArray, List.getElem?_cons_zero, List.getElem?_cons_succ] at hR5_c0 hR5_c1 hR5_c2
      go_wp2
      refine ⟨rfl, ?_⟩
      apply Exists.intro
      apply And.intro
      · simp [results, Try.results20, go_sem, hR5_c0, hR5_c1, hR5_c2, hR5_lt]; exact rfl
      · exact ⟨_, _, by rw [HNX.out], HT.out⟩
end Go.Proofs.Ytilokgloocbbnaa
