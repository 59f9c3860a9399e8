/-
  Pacers: the draws.
  Conditions: the code's memory.
-/
import Derived.Test.YtilokgloocbbnaaRows
import Derived.Test.YtilokgloocbbnaaLib
import Derived.Test.YtilokgloocbbnaaOwn
import Derived.Test.YtilokgloocbbnaaDraw
import Derived.Test.YtilokgloocbbnaaInv
import Derived.Test.YtilokgloocbbnaaSlots
import Derived.Test.YtilokgloocbbnaaApp
import Derived.Test.YtilokgloocbbnaaPac
import Derived.Test.YtilokgloocbbnaaPacB
import Derived.Outline
namespace Go.Proofs.Ytilokgloocbbnaa
open Go.RowKit
set_option linter.unusedVariables false
set_option linter.unusedSimpArgs false

/-- A packet that waits is drawn. -/
def WtDrawn (B g K : Nat) (w : World) (e : Ending) (w' : World) : Prop := ∃ x : Wt, e = .returned (.agg #[.int .i64 x.id, .int .i64 x.cl, .int .i64 x.sz]) ∧ Rd w' B g K ∧ Only g w w'

set_option maxHeartbeats 4000000 in
theorem l92Waiting_any (B g K : Nat) (w : World) (h : Rd w B g K) (hK : K ≤ 1099511620000) :
    Calls Try.prog 36 #[.pointer (some ⟨g, 0, none⟩)] w (WtDrawn B g (K + 5) w) := by
  have hl := h.lt
  have hres := Bk.new w 27 #[.int .i64 0, .int .i64 0, .int .i64 0]
  have hall0 := fun o => (Below.refl w.heap.size w).alloc (Nat.le_refl _) o
  go_enter Try.func36, Try.ntmps36
  go_wp2_with fail
  go_wp2_with fail
  refine (pick_any _ _ _ _ _ (h.below (hall0 _)) (by omega) (by omega)).mono ?_
  rintro e w_p ⟨p, rfl, p_0, p_1, hrd_p, ho_p, hsz_p⟩
  have p_u := p_1 (by omega)
  have hlt_p := hrd_p.lt
  clear p_1
  go_wp2_with fail
  refine (pick_any _ _ _ _ _ hrd_p (by omega) (by omega)).mono ?_
  rintro e w_q ⟨q, rfl, q_0, q_1, hrd_q, ho_q, hsz_q⟩
  have q_u := q_1 (by omega)
  have hlt_q := hrd_q.lt
  clear q_1
  go_wp2_with fail
  refine (pick_any _ _ _ _ _ hrd_q (by omega) (by omega)).mono ?_
  rintro e w_r ⟨r, rfl, r_0, r_1, hrd_r, ho_r, hsz_r⟩
  have r_u := r_1 (by omega)
  have hlt_r := hrd_r.lt
  clear r_1
  have hO : Only g w w_r := (((Only.of_below (hall0 _)).trans ho_p).trans ho_q).trans ho_r
  replace hres := hres.only ho_p (by first | omega | (simp; done) | (simp; omega))
  replace hres := hres.only ho_q (by first | omega | (simp; done) | (simp; omega))
  replace hres := hres.only ho_r (by first | omega | (simp; done) | (simp; omega))
  have hsz : w.heap.size < w_r.heap.size := hres.lt
  clear ho_p ho_q ho_r hsz_p hsz_q hsz_r hrd_p hrd_q h hall0
  go_wp2_with fail
  have hx := Bk.new w_r 27 #[.int .i64 p, .int .i64 q, .int .i64 (1 + r * 4)]
  have hall := fun o => (Below.refl w_r.heap.size w_r).alloc (Nat.le_refl _) o
  go_wp2_with fail
  refine (pick_any _ _ _ _ _ (hrd_r.below (hall _)) (by omega) (by omega)).mono ?_
  rintro e w_s ⟨s, rfl, s_0, s_1, hrd_s, ho_s, hsz_s⟩
  have s_u := s_1 (by omega)
  have hlt_s := hrd_s.lt
  clear s_1
  replace hO := (hO.trans (Only.of_below (hall _))).trans ho_s
  replace hres := (hres.below (hall _) hres.lt).only ho_s (by omega)
  replace hx := hx.only ho_s (by first | omega | (simp; done) | (simp; omega))
  clear hall ho_s hsz_s hrd_r
  generalize w_r.heap.size = gx at *
  by_cases hs : s = 0
  · subst hs
    go_wp2_with fail
    have hnew := Bk.new w_s 3 #[.int .i64 0, .int .i64 1500, .int .i64 1501]
    have hall := fun o => (Below.refl w_s.heap.size w_s).alloc (Nat.le_refl _) o
    go_wp2_with fail
    refine (pick_any _ _ _ _ _ (hrd_s.below (hall _)) (by omega) (by omega)).mono ?_
    rintro e w_u ⟨u, rfl, u_0, u_1, hrd_u, ho_u, hsz_u⟩
    have u_u := u_1 (by omega)
    have hlt_u := hrd_u.lt
    clear u_1
    obtain ⟨k, rfl⟩ := Int.eq_ofNat_of_zero_le u_0
    obtain ⟨z, hz, z0, z1⟩ := lit_cell [0, 1500, 1501] 0 1501 (hnew.only ho_u (by omega)) (by decide) (k := k) (by simp; omega)
    replace hO := (hO.trans (Only.of_below (hall _))).trans ho_u
    replace hres := (hres.below (hall _) hres.lt).only ho_u (by omega)
    replace hx := (hx.below (hall _) hx.lt).only ho_u (by omega)
    clear hnew hall ho_u hsz_u hrd_s
    (try clear hres_c0); (try clear hres_f0)
    (try clear hres_c1); (try clear hres_f1)
    (try clear hres_c2); (try clear hres_f2)
    (try clear hres_lt)
    have hres_lt := hres.lt; (try simp only [World.size_alloc] at hres_lt)
    have hres_c0 := hres.cell 0; have hres_f0 := hres.frozen 0
    have hres_c1 := hres.cell 1; have hres_f1 := hres.frozen 1
    have hres_c2 := hres.cell 2; have hres_f2 := hres.frozen 2
    simp only [List.getElem?_toArray, List.getElem?_cons_zero, List.getElem?_cons_succ] at hres_c0 hres_c1 hres_c2
    (try clear hx_c0); (try clear hx_f0)
    (try clear hx_c1); (try clear hx_f1)
    (try clear hx_c2); (try clear hx_f2)
    (try clear hx_lt)
    have hx_lt := hx.lt; (try simp only [World.size_alloc] at hx_lt)
    have hx_c0 := hx.cell 0; have hx_f0 := hx.frozen 0
    have hx_c1 := hx.cell 1; have hx_f1 := hx.frozen 1
    have hx_c2 := hx.cell 2; have hx_f2 := hx.frozen 2
    simp only [List.getElem?_toArray, List.getElem?_cons_zero, List.getElem?_cons_succ] at hx_c0 hx_c1 hx_c2
    go_wp2
    refine ⟨rfl, ?_⟩
    apply Exists.intro
    apply And.intro
    · simp [results, Try.results36, go_sem, hres_c0, hres_c1, hres_c2, hx_c0, hx_c1, hx_c2, hres_lt, hx_lt]; exact rfl
    · exact ⟨⟨p, q, z⟩, rfl, Rd.more (K := K + 1 + 1 + 1 + 1 + 1) (by repeat (first | with_reducible exact hrd_u | refine Rd.setCell ?_ (by first | (show g < gx; omega) | (show g < w.heap.size; omega)) _)) (by omega), by repeat (first | with_reducible exact hO | refine Only.setCell ?_ (.inr (by first | (show w.heap.size ≤ gx; omega) | exact Nat.le_refl _)) _)⟩
  · have e0 : (s == 0) = false := by simpa using hs
    (try clear hres_c0); (try clear hres_f0)
    (try clear hres_c1); (try clear hres_f1)
    (try clear hres_c2); (try clear hres_f2)
    (try clear hres_lt)
    have hres_lt := hres.lt; (try simp only [World.size_alloc] at hres_lt)
    have hres_c0 := hres.cell 0; have hres_f0 := hres.frozen 0
    have hres_c1 := hres.cell 1; have hres_f1 := hres.frozen 1
    have hres_c2 := hres.cell 2; have hres_f2 := hres.frozen 2
    simp only [List.getElem?_toArray, List.getElem?_cons_zero, List.getElem?_cons_succ] at hres_c0 hres_c1 hres_c2
    (try clear hx_c0); (try clear hx_f0)
    (try clear hx_c1); (try clear hx_f1)
    (try clear hx_c2); (try clear hx_f2)
    (try clear hx_lt)
    have hx_lt := hx.lt; (try simp only [World.size_alloc] at hx_lt)
    have hx_c0 := hx.cell 0; have hx_f0 := hx.frozen 0
    have hx_c1 := hx.cell 1; have hx_f1 := hx.frozen 1
    have hx_c2 := hx.cell 2; have hx_f2 := hx.frozen 2
    simp only [List.getElem?_toArray, List.getElem?_cons_zero, List.getElem?_cons_succ] at hx_c0 hx_c1 hx_c2
    go_wp2
    refine ⟨rfl, ?_⟩
    apply Exists.intro
    apply And.intro
    · simp [results, Try.results36, go_sem, hres_c0, hres_c1, hres_c2, hx_c0, hx_c1, hx_c2, hres_lt, hx_lt]; exact rfl
    · exact ⟨⟨p, q, 1 + r * 4⟩, rfl, Rd.more (K := K + 1 + 1 + 1 + 1) (by repeat (first | with_reducible exact hrd_s | refine Rd.setCell ?_ (by first | (show g < gx; omega) | (show g < w.heap.size; omega)) _)) (by omega), by repeat (first | with_reducible exact hO | refine Only.setCell ?_ (.inr (by first | (show w.heap.size ≤ gx; omega) | exact Nat.le_refl _)) _)⟩
end Go.Proofs.Ytilokgloocbbnaa
