/-
  Scripts: reading a packet, in both programs.
  Conditions: the state is valid (scOk), its packets lie at the world.
-/
import Derived.Test.YthbkmnladaneaaaGreatDoorScL
namespace Go.Proofs.YthbkmnladaneaaaGreatDoor
open Go.RowKit
set_option linter.unusedVariables false
set_option linter.unusedSimpArgs false
set_option maxRecDepth 100000


def tkV : Took → Value
  | .got p => p.v
  | _ => .agg #[.int .i64 0, .int .i64 0, .int .i64 0, .int .i64 0, .bool false, .bool false]
def tkN : Took → Int
  | .got _ => 0
  | .none => 1
  | .lost => 2
def TakeRet (s : Sc) (w : World) (e : Ending) (w' : World) : Prop := e = .returned (.tuple #[rdV (takeS s).1, tkV (takeS s).2, .int .i64 (tkN (takeS s).2)]) ∧ Below w.heap.size w w'
theorem take_far {s : Sc} (h : s.nx < oldI s) : takeS s = (skipS s (oldI s), .lost) := by unfold takeS; rw [if_pos h]
theorem take_end {s : Sc} (h : ¬ s.nx < oldI s) (h2 : s.nx = s.co) : takeS s = (s, .none) := by unfold takeS; rw [if_neg h, if_pos h2]
theorem take_wait {s : Sc} {k : Nat} {p : Pk} (h : ¬ s.nx < oldI s) (h2 : ¬ s.nx = s.co) (hk : (s.nx - oldI s).toNat = k) (hp : s.xs[k]? = some p) (h3 : s.wt = true ∧ p.ky = false) : takeS s = (skipS s s.nx, .lost) := by
  unfold takeS; rw [if_neg h, if_neg h2, hk, hp]; exact if_pos h3
theorem take_got {s : Sc} {k : Nat} {p : Pk} (h : ¬ s.nx < oldI s) (h2 : ¬ s.nx = s.co) (hk : (s.nx - oldI s).toNat = k) (hp : s.xs[k]? = some p) (h3 : ¬ (s.wt = true ∧ p.ky = false)) : takeS s = ({ s with nx := s.nx + 1, wt := false }, .got p) := by
  unfold takeS; rw [if_neg h, if_neg h2, hk, hp]; exact if_neg h3
theorem takeRet_of {s s' : Sc} {t : Took} {w w' : World} {v : Value} (h : takeS s = (s', t)) (hv : v = .tuple #[rdV s', tkV t, .int .i64 (tkN t)]) (hb : Below w.heap.size w w') : TakeRet s w (.returned v) w' := ⟨by rw [h, hv], hb⟩
theorem take_ok {s : Sc} (hok : scOk s) : scOk (takeS s).1 := by
  have hl := scOk_len hok
  obtain ⟨h1, h2, h3, h4, h5⟩ := id hok
  unfold takeS oldI
  split
  · exact skip_ok hok (by omega) (by omega)
  · split
    · exact hok
    · split
      · exact hok
      · split
        · exact skip_ok hok (by omega) (by omega)
        · exact ⟨h1, by show 0 ≤ s.nx + 1; omega, by show s.nx + 1 ≤ s.co; omega, h4, h5⟩
theorem take_p {s : Sc} (hok : scOk s) {p : Pk} (h : (takeS s).2 = .got p) : p ∈ s.xs := by
  unfold takeS at h
  split at h
  · cases h
  · split at h
    · cases h
    · split at h
      · cases h
      · rename_i q hq
        split at h
        · cases h
        · cases h
          exact List.mem_of_getElem? hq

theorem le2 (w : World) : w.heap.size ≤ w.heap.size + 1 + 1 := by omega
theorem le3 (w : World) : w.heap.size ≤ w.heap.size + 1 + 1 + 1 := by omega
theorem tr_far {s : Sc} (h : s.nx < oldI s) (w w' : World) (hb : Below w.heap.size w w') :
    TakeRet s w (.returned (.tuple #[.agg #[.int .i64 (skipS s (oldI s)).nx, .int .i64 (skipS s (oldI s)).lo, .bool (skipS s (oldI s)).wt], .agg #[.int .i64 0, .int .i64 0, .int .i64 0, .int .i64 0, .bool false, .bool false], .int .i64 2])) w' := takeRet_of (take_far h) rfl hb
theorem tr_end {s : Sc} (h : ¬ s.nx < oldI s) (h2 : s.nx = s.co) (w w' : World) (hb : Below w.heap.size w w') :
    TakeRet s w (.returned (.tuple #[.agg #[.int .i64 s.nx, .int .i64 s.lo, .bool s.wt], .agg #[.int .i64 0, .int .i64 0, .int .i64 0, .int .i64 0, .bool false, .bool false], .int .i64 1])) w' := takeRet_of (take_end h h2) rfl hb
theorem tr_wait {s : Sc} (h : ¬ s.nx < oldI s) (h2 : ¬ s.nx = s.co) (k : Nat) (p : Pk) (hk : s.nx - oldI s = (k : Int)) (hp : s.xs[k]? = some p) (h3 : s.wt = true) (h4 : p.ky = false) (w w' : World) (hb : Below w.heap.size w w') :
    TakeRet s w (.returned (.tuple #[.agg #[.int .i64 (skipS s s.nx).nx, .int .i64 (skipS s s.nx).lo, .bool (skipS s s.nx).wt], .agg #[.int .i64 0, .int .i64 0, .int .i64 0, .int .i64 0, .bool false, .bool false], .int .i64 2])) w' := takeRet_of (take_wait h h2 (by rw [hk]; rfl) hp ⟨h3, h4⟩) rfl hb
theorem tr_got {s : Sc} (h : ¬ s.nx < oldI s) (h2 : ¬ s.nx = s.co) (k : Nat) (p : Pk) (hk : s.nx - oldI s = (k : Int)) (hp : s.xs[k]? = some p) (h3 : ¬ (s.wt = true ∧ p.ky = false)) (w w' : World) (hb : Below w.heap.size w w') :
    TakeRet s w (.returned (.tuple #[.agg #[.int .i64 (s.nx + 1), .int .i64 s.lo, .bool false], .agg #[.int .i64 p.wi, .int .i64 p.ti, .int .i64 p.la, .int .i64 p.si, .bool p.ky, .bool p.en], .int .i64 0])) w' := takeRet_of (take_got h h2 (by rw [hk]; rfl) hp h3) rfl hb

set_option maxHeartbeats 1000000 in
theorem stake_any (s : Sc) (A : Option Addr) (c : Nat) (w : World) (h : Pks w w.heap.size A s.xs.length s.xs) (hok : scOk s) :
    Calls Tryz.prog 49 #[rgV s A c, rdV s] w (TakeRet s w) := by
  have HV := Lib.hid (fun (w' : World) (hw : Below w.heap.size w w') => sval_any s A c w' ((h.below hw).more hw.size) hok)
  obtain ⟨hl4, hlc, hc0, hc1⟩ := scOk_len hok
  obtain ⟨-, hn0, hn1, ho0, ho1⟩ := id hok
  have hold : oldI s = s.co - (s.xs.length : Int) := rfl
  have HSA := Lib.hid (fun (w' : World) (hw : Below w.heap.size w w') => sskip_any s A c (oldI s) w' ((h.below hw).more hw.size) hok (by omega) (by omega))
  have HSB := Lib.hid (fun (w' : World) (hw : Below w.heap.size w w') => sskip_any s A c s.nx w' ((h.below hw).more hw.size) hok (by omega) (by omega))
  have HFAR := Lib.hid (fun h1 => tr_far (s := s) h1 w)
  have HEND := Lib.hid (fun h1 h2 => tr_end (s := s) h1 h2 w)
  have HWAIT := Lib.hid (fun h1 h2 k p hk hp h3 h4 => tr_wait (s := s) h1 h2 k p hk hp h3 h4 w)
  have HGOT := Lib.hid (fun h1 h2 k p hk hp h3 => tr_got (s := s) h1 h2 k p hk hp h3 w)
  have hxl : s.xs.length = s.xs.length := rfl
  clear hok
  generalize TakeRet s w = R at *
  unfold SkipRet at HSA HSB
  unfold rgV rdV at *
  rw [hold] at *
  generalize (skipS s (s.co - (s.xs.length : Int))).nx = a1 at *
  generalize (skipS s (s.co - (s.xs.length : Int))).lo = a2 at *
  generalize (skipS s (s.co - (s.xs.length : Int))).wt = a3 at *
  generalize (skipS s s.nx).nx = b1 at *
  generalize (skipS s s.nx).lo = b2 at *
  generalize (skipS s s.nx).wt = b3 at *
  clear hold
  generalize s.xs = xs at *
  generalize s.co = co at *
  generalize s.nx = nx at *
  generalize s.lo = lo at *
  generalize s.wt = wt at *
  clear hxl
  have hxl := h.len
  generalize hn : xs.length = n at *
  have hD := (((Bk.new w 34 #[.int .i64 4, .int .i64 co, .slice A n c]).alloc (.cells #[.int .i64 nx, .int .i64 lo, .bool wt] 36)).alloc (.cells #[.int .i64 0, .int .i64 0, .bool false] 36)).alloc (.cells #[.int .i64 0, .int .i64 0, .int .i64 0, .int .i64 0, .bool false, .bool false] 81)
  have hX := ((bk_new1 w (.cells #[.int .i64 4, .int .i64 co, .slice A n c] 34) 36 #[.int .i64 nx, .int .i64 lo, .bool wt]).alloc (.cells #[.int .i64 0, .int .i64 0, .bool false] 36)).alloc (.cells #[.int .i64 0, .int .i64 0, .int .i64 0, .int .i64 0, .bool false, .bool false] 81)
  have hR := (bk_new1 (w.alloc (.cells #[.int .i64 4, .int .i64 co, .slice A n c] 34)) (.cells #[.int .i64 nx, .int .i64 lo, .bool wt] 36) 36 #[.int .i64 0, .int .i64 0, .bool false]).alloc (.cells #[.int .i64 0, .int .i64 0, .int .i64 0, .int .i64 0, .bool false, .bool false] 81)
  have hP := bk_new1 ((w.alloc (.cells #[.int .i64 4, .int .i64 co, .slice A n c] 34)).alloc (.cells #[.int .i64 nx, .int .i64 lo, .bool wt] 36)) (.cells #[.int .i64 0, .int .i64 0, .bool false] 36) 81 #[.int .i64 0, .int .i64 0, .int .i64 0, .int .i64 0, .bool false, .bool false]
  rw [size1] at hR
  rw [size1, size1] at hP
  have hBa : Below w.heap.size w ((((w.alloc (.cells #[.int .i64 4, .int .i64 co, .slice A n c] 34)).alloc (.cells #[.int .i64 nx, .int .i64 lo, .bool wt] 36)).alloc (.cells #[.int .i64 0, .int .i64 0, .bool false] 36)).alloc (.cells #[.int .i64 0, .int .i64 0, .int .i64 0, .int .i64 0, .bool false, .bool false] 81)) := (by repeat (first | exact Below.refl _ _ | assumption | refine Below.setCell ?_ (by first | omega | (simp; done) | (simp; omega)) _ | refine Below.alloc ?_ (by first | omega | (simp; done) | (simp; omega)) _ | refine Below.drew ?_ | refine Below.drewN' ?_ _ | refine Below.trans ?_ (Below.mono (by assumption) (by first | omega | (simp; done) | (simp; omega)))))
  (try clear hD_c0); (try clear hD_f0)
  (try clear hD_c1); (try clear hD_f1)
  (try clear hD_c2); (try clear hD_f2)
  (try clear hD_lt)
  have hD_lt := hD.lt; (try simp only [World.size_alloc] at hD_lt)
  have hD_c0 := hD.cell 0; have hD_f0 := hD.frozen 0
  have hD_c1 := hD.cell 1; have hD_f1 := hD.frozen 1
  have hD_c2 := hD.cell 2; have hD_f2 := hD.frozen 2
  simp only [List.getElem?_toArray, List.getElem?_cons_zero, List.getElem?_cons_succ] at hD_c0 hD_c1 hD_c2
  (try clear hX_c0); (try clear hX_f0)
  (try clear hX_c1); (try clear hX_f1)
  (try clear hX_c2); (try clear hX_f2)
  (try clear hX_lt)
  have hX_lt := hX.lt; (try simp only [World.size_alloc] at hX_lt)
  have hX_c0 := hX.cell 0; have hX_f0 := hX.frozen 0
  have hX_c1 := hX.cell 1; have hX_f1 := hX.frozen 1
  have hX_c2 := hX.cell 2; have hX_f2 := hX.frozen 2
  simp only [List.getElem?_toArray, List.getElem?_cons_zero, List.getElem?_cons_succ] at hX_c0 hX_c1 hX_c2
  (try clear hR_c0); (try clear hR_f0)
  (try clear hR_c1); (try clear hR_f1)
  (try clear hR_c2); (try clear hR_f2)
  (try clear hR_lt)
  have hR_lt := hR.lt; (try simp only [World.size_alloc] at hR_lt)
  have hR_c0 := hR.cell 0; have hR_f0 := hR.frozen 0
  have hR_c1 := hR.cell 1; have hR_f1 := hR.frozen 1
  have hR_c2 := hR.cell 2; have hR_f2 := hR.frozen 2
  simp only [List.getElem?_toArray, List.getElem?_cons_zero, List.getElem?_cons_succ] at hR_c0 hR_c1 hR_c2
  (try clear hP_c0); (try clear hP_f0)
  (try clear hP_c1); (try clear hP_f1)
  (try clear hP_c2); (try clear hP_f2)
  (try clear hP_c3); (try clear hP_f3)
  (try clear hP_c4); (try clear hP_f4)
  (try clear hP_c5); (try clear hP_f5)
  (try clear hP_lt)
  have hP_lt := hP.lt; (try simp only [World.size_alloc] at hP_lt)
  have hP_c0 := hP.cell 0; have hP_f0 := hP.frozen 0
  have hP_c1 := hP.cell 1; have hP_f1 := hP.frozen 1
  have hP_c2 := hP.cell 2; have hP_f2 := hP.frozen 2
  have hP_c3 := hP.cell 3; have hP_f3 := hP.frozen 3
  have hP_c4 := hP.cell 4; have hP_f4 := hP.frozen 4
  have hP_c5 := hP.cell 5; have hP_f5 := hP.frozen 5
  simp only [List.getElem?_toArray, List.getElem?_cons_zero, List.getElem?_cons_succ] at hP_c0 hP_c1 hP_c2 hP_c3 hP_c4 hP_c5
  by_cases q1 : nx < (co - (n : Int))
  · have d1 : decide (nx < (co - (n : Int))) = true := by simpa using q1
    go_enter Tryz.func49, Tryz.ntmps49
    go_wp2_with (first
      | (go_at_call 66
         refine (HV.out _ hBa).mono ?_
         rintro e w1 ⟨rfl, hb1⟩
         replace hBa := hBa.trans (hb1.mono hBa.size)
         replace hD := hD.below hb1 (by first | omega | exact hD.lt | (simp; done) | (simp; omega))
         (try clear hD_c0); (try clear hD_f0)
         (try clear hD_c1); (try clear hD_f1)
         (try clear hD_c2); (try clear hD_f2)
         (try clear hD_lt)
         have hD_lt := hD.lt; (try simp only [World.size_alloc] at hD_lt)
         have hD_c0 := hD.cell 0; have hD_f0 := hD.frozen 0
         have hD_c1 := hD.cell 1; have hD_f1 := hD.frozen 1
         have hD_c2 := hD.cell 2; have hD_f2 := hD.frozen 2
         simp only [List.getElem?_toArray, List.getElem?_cons_zero, List.getElem?_cons_succ] at hD_c0 hD_c1 hD_c2
         replace hX := hX.below hb1 (by first | omega | exact hX.lt | (simp; done) | (simp; omega))
         (try clear hX_c0); (try clear hX_f0)
         (try clear hX_c1); (try clear hX_f1)
         (try clear hX_c2); (try clear hX_f2)
         (try clear hX_lt)
         have hX_lt := hX.lt; (try simp only [World.size_alloc] at hX_lt)
         have hX_c0 := hX.cell 0; have hX_f0 := hX.frozen 0
         have hX_c1 := hX.cell 1; have hX_f1 := hX.frozen 1
         have hX_c2 := hX.cell 2; have hX_f2 := hX.frozen 2
         simp only [List.getElem?_toArray, List.getElem?_cons_zero, List.getElem?_cons_succ] at hX_c0 hX_c1 hX_c2
         replace hR := hR.below hb1 (by first | omega | exact hR.lt | (simp; done) | (simp; omega))
         (try clear hR_c0); (try clear hR_f0)
         (try clear hR_c1); (try clear hR_f1)
         (try clear hR_c2); (try clear hR_f2)
         (try clear hR_lt)
         have hR_lt := hR.lt; (try simp only [World.size_alloc] at hR_lt)
         have hR_c0 := hR.cell 0; have hR_f0 := hR.frozen 0
         have hR_c1 := hR.cell 1; have hR_f1 := hR.frozen 1
         have hR_c2 := hR.cell 2; have hR_f2 := hR.frozen 2
         simp only [List.getElem?_toArray, List.getElem?_cons_zero, List.getElem?_cons_succ] at hR_c0 hR_c1 hR_c2
         replace hP := hP.below hb1 (by first | omega | exact hP.lt | (simp; done) | (simp; omega))
         (try clear hP_c0); (try clear hP_f0)
         (try clear hP_c1); (try clear hP_f1)
         (try clear hP_c2); (try clear hP_f2)
         (try clear hP_c3); (try clear hP_f3)
         (try clear hP_c4); (try clear hP_f4)
         (try clear hP_c5); (try clear hP_f5)
         (try clear hP_lt)
         have hP_lt := hP.lt; (try simp only [World.size_alloc] at hP_lt)
         have hP_c0 := hP.cell 0; have hP_f0 := hP.frozen 0
         have hP_c1 := hP.cell 1; have hP_f1 := hP.frozen 1
         have hP_c2 := hP.cell 2; have hP_f2 := hP.frozen 2
         have hP_c3 := hP.cell 3; have hP_f3 := hP.frozen 3
         have hP_c4 := hP.cell 4; have hP_f4 := hP.frozen 4
         have hP_c5 := hP.cell 5; have hP_f5 := hP.frozen 5
         simp only [List.getElem?_toArray, List.getElem?_cons_zero, List.getElem?_cons_succ] at hP_c0 hP_c1 hP_c2 hP_c3 hP_c4 hP_c5
         clear hb1)
      | (go_at_call 67
         refine (HSA.out _ hBa).mono ?_
         rintro e w1 ⟨rfl, hb1⟩
         replace hBa := hBa.trans (hb1.mono hBa.size)
         replace hD := hD.below hb1 (by first | omega | exact hD.lt | (simp; done) | (simp; omega))
         (try clear hD_c0); (try clear hD_f0)
         (try clear hD_c1); (try clear hD_f1)
         (try clear hD_c2); (try clear hD_f2)
         (try clear hD_lt)
         have hD_lt := hD.lt; (try simp only [World.size_alloc] at hD_lt)
         have hD_c0 := hD.cell 0; have hD_f0 := hD.frozen 0
         have hD_c1 := hD.cell 1; have hD_f1 := hD.frozen 1
         have hD_c2 := hD.cell 2; have hD_f2 := hD.frozen 2
         simp only [List.getElem?_toArray, List.getElem?_cons_zero, List.getElem?_cons_succ] at hD_c0 hD_c1 hD_c2
         replace hX := hX.below hb1 (by first | omega | exact hX.lt | (simp; done) | (simp; omega))
         (try clear hX_c0); (try clear hX_f0)
         (try clear hX_c1); (try clear hX_f1)
         (try clear hX_c2); (try clear hX_f2)
         (try clear hX_lt)
         have hX_lt := hX.lt; (try simp only [World.size_alloc] at hX_lt)
         have hX_c0 := hX.cell 0; have hX_f0 := hX.frozen 0
         have hX_c1 := hX.cell 1; have hX_f1 := hX.frozen 1
         have hX_c2 := hX.cell 2; have hX_f2 := hX.frozen 2
         simp only [List.getElem?_toArray, List.getElem?_cons_zero, List.getElem?_cons_succ] at hX_c0 hX_c1 hX_c2
         replace hR := hR.below hb1 (by first | omega | exact hR.lt | (simp; done) | (simp; omega))
         (try clear hR_c0); (try clear hR_f0)
         (try clear hR_c1); (try clear hR_f1)
         (try clear hR_c2); (try clear hR_f2)
         (try clear hR_lt)
         have hR_lt := hR.lt; (try simp only [World.size_alloc] at hR_lt)
         have hR_c0 := hR.cell 0; have hR_f0 := hR.frozen 0
         have hR_c1 := hR.cell 1; have hR_f1 := hR.frozen 1
         have hR_c2 := hR.cell 2; have hR_f2 := hR.frozen 2
         simp only [List.getElem?_toArray, List.getElem?_cons_zero, List.getElem?_cons_succ] at hR_c0 hR_c1 hR_c2
         replace hP := hP.below hb1 (by first | omega | exact hP.lt | (simp; done) | (simp; omega))
         (try clear hP_c0); (try clear hP_f0)
         (try clear hP_c1); (try clear hP_f1)
         (try clear hP_c2); (try clear hP_f2)
         (try clear hP_c3); (try clear hP_f3)
         (try clear hP_c4); (try clear hP_f4)
         (try clear hP_c5); (try clear hP_f5)
         (try clear hP_lt)
         have hP_lt := hP.lt; (try simp only [World.size_alloc] at hP_lt)
         have hP_c0 := hP.cell 0; have hP_f0 := hP.frozen 0
         have hP_c1 := hP.cell 1; have hP_f1 := hP.frozen 1
         have hP_c2 := hP.cell 2; have hP_f2 := hP.frozen 2
         have hP_c3 := hP.cell 3; have hP_f3 := hP.frozen 3
         have hP_c4 := hP.cell 4; have hP_f4 := hP.frozen 4
         have hP_c5 := hP.cell 5; have hP_f5 := hP.frozen 5
         simp only [List.getElem?_toArray, List.getElem?_cons_zero, List.getElem?_cons_succ] at hP_c0 hP_c1 hP_c2 hP_c3 hP_c4 hP_c5
         clear hb1))
    refine ⟨rfl, ?_⟩
    apply Exists.intro
    apply And.intro
    · simp [results, Tryz.results49, go_sem, hR_c0, hR_c1, hR_c2, hP_c0, hP_c1, hP_c2, hP_c3, hP_c4, hP_c5, hR_lt, hP_lt]; exact rfl
    · exact HFAR.out q1 _ (by repeat (first | with_reducible exact hBa | with_reducible refine Below.setCell ?_ ?_ _ | (show w.heap.size ≤ w.heap.size + 1 + 1; omega) | (show w.heap.size ≤ w.heap.size + 1 + 1 + 1; omega) | (with_reducible refine Below.alloc ?_ ?_ _) | exact hBa.size))
  · have d1 : decide (nx < (co - (n : Int))) = false := by simpa using q1
    by_cases q2 : nx = co
    · have d2 : (nx == co) = true := by simpa using q2
      have HN := Lib.hid (HEND.out q1 q2)
      clear q2
      go_enter Tryz.func49, Tryz.ntmps49
      go_wp2_with (first
        | (go_at_call 66
           refine (HV.out _ hBa).mono ?_
           rintro e w1 ⟨rfl, hb1⟩
           replace hBa := hBa.trans (hb1.mono hBa.size)
           replace hD := hD.below hb1 (by first | omega | exact hD.lt | (simp; done) | (simp; omega))
           (try clear hD_c0); (try clear hD_f0)
           (try clear hD_c1); (try clear hD_f1)
           (try clear hD_c2); (try clear hD_f2)
           (try clear hD_lt)
           have hD_lt := hD.lt; (try simp only [World.size_alloc] at hD_lt)
           have hD_c0 := hD.cell 0; have hD_f0 := hD.frozen 0
           have hD_c1 := hD.cell 1; have hD_f1 := hD.frozen 1
           have hD_c2 := hD.cell 2; have hD_f2 := hD.frozen 2
           simp only [List.getElem?_toArray, List.getElem?_cons_zero, List.getElem?_cons_succ] at hD_c0 hD_c1 hD_c2
           replace hX := hX.below hb1 (by first | omega | exact hX.lt | (simp; done) | (simp; omega))
           (try clear hX_c0); (try clear hX_f0)
           (try clear hX_c1); (try clear hX_f1)
           (try clear hX_c2); (try clear hX_f2)
           (try clear hX_lt)
           have hX_lt := hX.lt; (try simp only [World.size_alloc] at hX_lt)
           have hX_c0 := hX.cell 0; have hX_f0 := hX.frozen 0
           have hX_c1 := hX.cell 1; have hX_f1 := hX.frozen 1
           have hX_c2 := hX.cell 2; have hX_f2 := hX.frozen 2
           simp only [List.getElem?_toArray, List.getElem?_cons_zero, List.getElem?_cons_succ] at hX_c0 hX_c1 hX_c2
           replace hR := hR.below hb1 (by first | omega | exact hR.lt | (simp; done) | (simp; omega))
           (try clear hR_c0); (try clear hR_f0)
           (try clear hR_c1); (try clear hR_f1)
           (try clear hR_c2); (try clear hR_f2)
           (try clear hR_lt)
           have hR_lt := hR.lt; (try simp only [World.size_alloc] at hR_lt)
           have hR_c0 := hR.cell 0; have hR_f0 := hR.frozen 0
           have hR_c1 := hR.cell 1; have hR_f1 := hR.frozen 1
           have hR_c2 := hR.cell 2; have hR_f2 := hR.frozen 2
           simp only [List.getElem?_toArray, List.getElem?_cons_zero, List.getElem?_cons_succ] at hR_c0 hR_c1 hR_c2
           replace hP := hP.below hb1 (by first | omega | exact hP.lt | (simp; done) | (simp; omega))
           (try clear hP_c0); (try clear hP_f0)
           (try clear hP_c1); (try clear hP_f1)
           (try clear hP_c2); (try clear hP_f2)
           (try clear hP_c3); (try clear hP_f3)
           (try clear hP_c4); (try clear hP_f4)
           (try clear hP_c5); (try clear hP_f5)
           (try clear hP_lt)
           have hP_lt := hP.lt; (try simp only [World.size_alloc] at hP_lt)
           have hP_c0 := hP.cell 0; have hP_f0 := hP.frozen 0
           have hP_c1 := hP.cell 1; have hP_f1 := hP.frozen 1
           have hP_c2 := hP.cell 2; have hP_f2 := hP.frozen 2
           have hP_c3 := hP.cell 3; have hP_f3 := hP.frozen 3
           have hP_c4 := hP.cell 4; have hP_f4 := hP.frozen 4
           have hP_c5 := hP.cell 5; have hP_f5 := hP.frozen 5
           simp only [List.getElem?_toArray, List.getElem?_cons_zero, List.getElem?_cons_succ] at hP_c0 hP_c1 hP_c2 hP_c3 hP_c4 hP_c5
           clear hb1))
      refine ⟨rfl, ?_⟩
      apply Exists.intro
      apply And.intro
      · simp [results, Tryz.results49, go_sem, hR_c0, hR_c1, hR_c2, hP_c0, hP_c1, hP_c2, hP_c3, hP_c4, hP_c5, hR_lt, hP_lt]; exact rfl
      · exact HN.out _ (by repeat (first | with_reducible exact hBa | with_reducible refine Below.setCell ?_ ?_ _ | (show w.heap.size ≤ w.heap.size + 1 + 1; omega) | (show w.heap.size ≤ w.heap.size + 1 + 1 + 1; omega) | (with_reducible refine Below.alloc ?_ ?_ _) | exact hBa.size))
    · have d2 : (nx == co) = false := by simpa using q2
      obtain ⟨k, hk⟩ : ∃ k : Nat, nx - (co - (n : Int)) = (k : Int) := ⟨(nx - (co - (n : Int))).toNat, by omega⟩
      have hkn : k < n := by omega
      have hw1 : IntKind.i64.wrap (nx - (co - (n : Int))) = (k : Int) := by rw [IntKind.wrap_i64]; omega
      obtain ⟨b, off, rfl, hb, hcell⟩ := h.addr (by omega)
      obtain ⟨p, hp⟩ : ∃ p, xs[k]? = some p := ⟨_, List.getElem?_eq_getElem (by omega)⟩
      obtain ⟨c0, c1, c2, c3, c4, c5⟩ := hcell k p hp
      have HW := Lib.hid (HWAIT.out q1 q2 k p hk hp)
      have HG := Lib.hid (HGOT.out q1 q2 k p hk hp)
      clear hcell h hp q2 hn hxl
      have hbw : b < w.heap.size := by omega
      by_cases q3 : wt = true ∧ p.ky = false
      · have HN := Lib.hid (HW.out q3.1 q3.2)
        have q4 := q3.1
        rw [q3.2] at c4
        subst q4
        clear q3
        go_enter Tryz.func49, Tryz.ntmps49
        go_wp2_with (first
          | (go_at_call 66
             refine (HV.out _ hBa).mono ?_
             rintro e w1 ⟨rfl, hb1⟩
             replace hBa := hBa.trans (hb1.mono hBa.size); replace hbw : b < w1.heap.size := by (have := hBa.size; omega)
             replace hD := hD.below hb1 (by first | omega | exact hD.lt | (simp; done) | (simp; omega))
             (try clear hD_c0); (try clear hD_f0)
             (try clear hD_c1); (try clear hD_f1)
             (try clear hD_c2); (try clear hD_f2)
             (try clear hD_lt)
             have hD_lt := hD.lt; (try simp only [World.size_alloc] at hD_lt)
             have hD_c0 := hD.cell 0; have hD_f0 := hD.frozen 0
             have hD_c1 := hD.cell 1; have hD_f1 := hD.frozen 1
             have hD_c2 := hD.cell 2; have hD_f2 := hD.frozen 2
             simp only [List.getElem?_toArray, List.getElem?_cons_zero, List.getElem?_cons_succ] at hD_c0 hD_c1 hD_c2
             replace hX := hX.below hb1 (by first | omega | exact hX.lt | (simp; done) | (simp; omega))
             (try clear hX_c0); (try clear hX_f0)
             (try clear hX_c1); (try clear hX_f1)
             (try clear hX_c2); (try clear hX_f2)
             (try clear hX_lt)
             have hX_lt := hX.lt; (try simp only [World.size_alloc] at hX_lt)
             have hX_c0 := hX.cell 0; have hX_f0 := hX.frozen 0
             have hX_c1 := hX.cell 1; have hX_f1 := hX.frozen 1
             have hX_c2 := hX.cell 2; have hX_f2 := hX.frozen 2
             simp only [List.getElem?_toArray, List.getElem?_cons_zero, List.getElem?_cons_succ] at hX_c0 hX_c1 hX_c2
             replace hR := hR.below hb1 (by first | omega | exact hR.lt | (simp; done) | (simp; omega))
             (try clear hR_c0); (try clear hR_f0)
             (try clear hR_c1); (try clear hR_f1)
             (try clear hR_c2); (try clear hR_f2)
             (try clear hR_lt)
             have hR_lt := hR.lt; (try simp only [World.size_alloc] at hR_lt)
             have hR_c0 := hR.cell 0; have hR_f0 := hR.frozen 0
             have hR_c1 := hR.cell 1; have hR_f1 := hR.frozen 1
             have hR_c2 := hR.cell 2; have hR_f2 := hR.frozen 2
             simp only [List.getElem?_toArray, List.getElem?_cons_zero, List.getElem?_cons_succ] at hR_c0 hR_c1 hR_c2
             replace hP := hP.below hb1 (by first | omega | exact hP.lt | (simp; done) | (simp; omega))
             (try clear hP_c0); (try clear hP_f0)
             (try clear hP_c1); (try clear hP_f1)
             (try clear hP_c2); (try clear hP_f2)
             (try clear hP_c3); (try clear hP_f3)
             (try clear hP_c4); (try clear hP_f4)
             (try clear hP_c5); (try clear hP_f5)
             (try clear hP_lt)
             have hP_lt := hP.lt; (try simp only [World.size_alloc] at hP_lt)
             have hP_c0 := hP.cell 0; have hP_f0 := hP.frozen 0
             have hP_c1 := hP.cell 1; have hP_f1 := hP.frozen 1
             have hP_c2 := hP.cell 2; have hP_f2 := hP.frozen 2
             have hP_c3 := hP.cell 3; have hP_f3 := hP.frozen 3
             have hP_c4 := hP.cell 4; have hP_f4 := hP.frozen 4
             have hP_c5 := hP.cell 5; have hP_f5 := hP.frozen 5
             simp only [List.getElem?_toArray, List.getElem?_cons_zero, List.getElem?_cons_succ] at hP_c0 hP_c1 hP_c2 hP_c3 hP_c4 hP_c5
             replace c0 := (hBa.cell (p := ⟨b, off + k * 6, none⟩) hb).trans c0
             replace c1 := (hBa.cell (p := ⟨b, off + k * 6 + 1, none⟩) hb).trans c1
             replace c2 := (hBa.cell (p := ⟨b, off + k * 6 + 2, none⟩) hb).trans c2
             replace c3 := (hBa.cell (p := ⟨b, off + k * 6 + 3, none⟩) hb).trans c3
             replace c4 := (hBa.cell (p := ⟨b, off + k * 6 + 4, none⟩) hb).trans c4
             replace c5 := (hBa.cell (p := ⟨b, off + k * 6 + 5, none⟩) hb).trans c5
             clear hb1)
          | (go_at_call 67
             refine (HSB.out _ (hBa.alloc hBa.size _)).mono ?_
             rintro e w2 ⟨rfl, hb3⟩
             have hb1 := ((Below.refl w1.heap.size w1).alloc (Nat.le_refl _) _).trans (hb3.mono (by rw [size1]; omega)); clear hb3; replace hBa := hBa.trans (hb1.mono hBa.size)
             replace hD := hD.below hb1 (by first | omega | exact hD.lt | (simp; done) | (simp; omega))
             (try clear hD_c0); (try clear hD_f0)
             (try clear hD_c1); (try clear hD_f1)
             (try clear hD_c2); (try clear hD_f2)
             (try clear hD_lt)
             have hD_lt := hD.lt; (try simp only [World.size_alloc] at hD_lt)
             have hD_c0 := hD.cell 0; have hD_f0 := hD.frozen 0
             have hD_c1 := hD.cell 1; have hD_f1 := hD.frozen 1
             have hD_c2 := hD.cell 2; have hD_f2 := hD.frozen 2
             simp only [List.getElem?_toArray, List.getElem?_cons_zero, List.getElem?_cons_succ] at hD_c0 hD_c1 hD_c2
             replace hX := hX.below hb1 (by first | omega | exact hX.lt | (simp; done) | (simp; omega))
             (try clear hX_c0); (try clear hX_f0)
             (try clear hX_c1); (try clear hX_f1)
             (try clear hX_c2); (try clear hX_f2)
             (try clear hX_lt)
             have hX_lt := hX.lt; (try simp only [World.size_alloc] at hX_lt)
             have hX_c0 := hX.cell 0; have hX_f0 := hX.frozen 0
             have hX_c1 := hX.cell 1; have hX_f1 := hX.frozen 1
             have hX_c2 := hX.cell 2; have hX_f2 := hX.frozen 2
             simp only [List.getElem?_toArray, List.getElem?_cons_zero, List.getElem?_cons_succ] at hX_c0 hX_c1 hX_c2
             replace hR := hR.below hb1 (by first | omega | exact hR.lt | (simp; done) | (simp; omega))
             (try clear hR_c0); (try clear hR_f0)
             (try clear hR_c1); (try clear hR_f1)
             (try clear hR_c2); (try clear hR_f2)
             (try clear hR_lt)
             have hR_lt := hR.lt; (try simp only [World.size_alloc] at hR_lt)
             have hR_c0 := hR.cell 0; have hR_f0 := hR.frozen 0
             have hR_c1 := hR.cell 1; have hR_f1 := hR.frozen 1
             have hR_c2 := hR.cell 2; have hR_f2 := hR.frozen 2
             simp only [List.getElem?_toArray, List.getElem?_cons_zero, List.getElem?_cons_succ] at hR_c0 hR_c1 hR_c2
             replace hP := hP.below hb1 (by first | omega | exact hP.lt | (simp; done) | (simp; omega))
             (try clear hP_c0); (try clear hP_f0)
             (try clear hP_c1); (try clear hP_f1)
             (try clear hP_c2); (try clear hP_f2)
             (try clear hP_c3); (try clear hP_f3)
             (try clear hP_c4); (try clear hP_f4)
             (try clear hP_c5); (try clear hP_f5)
             (try clear hP_lt)
             have hP_lt := hP.lt; (try simp only [World.size_alloc] at hP_lt)
             have hP_c0 := hP.cell 0; have hP_f0 := hP.frozen 0
             have hP_c1 := hP.cell 1; have hP_f1 := hP.frozen 1
             have hP_c2 := hP.cell 2; have hP_f2 := hP.frozen 2
             have hP_c3 := hP.cell 3; have hP_f3 := hP.frozen 3
             have hP_c4 := hP.cell 4; have hP_f4 := hP.frozen 4
             have hP_c5 := hP.cell 5; have hP_f5 := hP.frozen 5
             simp only [List.getElem?_toArray, List.getElem?_cons_zero, List.getElem?_cons_succ] at hP_c0 hP_c1 hP_c2 hP_c3 hP_c4 hP_c5
             clear hb1))
        refine ⟨rfl, ?_⟩
        apply Exists.intro
        apply And.intro
        · simp [results, Tryz.results49, go_sem, hR_c0, hR_c1, hR_c2, hP_c0, hP_c1, hP_c2, hP_c3, hP_c4, hP_c5, hR_lt, hP_lt]; exact rfl
        · exact HN.out _ (by repeat (first | with_reducible exact hBa | with_reducible refine Below.setCell ?_ ?_ _ | (show w.heap.size ≤ w.heap.size + 1 + 1; omega) | (show w.heap.size ≤ w.heap.size + 1 + 1 + 1; omega) | (with_reducible refine Below.alloc ?_ ?_ _) | exact hBa.size))
      · have HN := Lib.hid (HG.out q3)
        have HVV := HV
        clear HV HSA HSB HFAR HEND HWAIT HGOT HW HG
        cases wt with
        | false =>
          clear q3
          go_enter Tryz.func49, Tryz.ntmps49
          go_wp2_with (first
            | (go_at_call 66
               refine (HVV.out _ hBa).mono ?_
               rintro e w1 ⟨rfl, hb1⟩
               replace hBa := hBa.trans (hb1.mono hBa.size); replace hbw : b < w1.heap.size := by (have := hBa.size; omega)
               replace hD := hD.below hb1 (by first | omega | exact hD.lt | (simp; done) | (simp; omega))
               (try clear hD_c0); (try clear hD_f0)
               (try clear hD_c1); (try clear hD_f1)
               (try clear hD_c2); (try clear hD_f2)
               (try clear hD_lt)
               have hD_lt := hD.lt; (try simp only [World.size_alloc] at hD_lt)
               have hD_c0 := hD.cell 0; have hD_f0 := hD.frozen 0
               have hD_c1 := hD.cell 1; have hD_f1 := hD.frozen 1
               have hD_c2 := hD.cell 2; have hD_f2 := hD.frozen 2
               simp only [List.getElem?_toArray, List.getElem?_cons_zero, List.getElem?_cons_succ] at hD_c0 hD_c1 hD_c2
               replace hX := hX.below hb1 (by first | omega | exact hX.lt | (simp; done) | (simp; omega))
               (try clear hX_c0); (try clear hX_f0)
               (try clear hX_c1); (try clear hX_f1)
               (try clear hX_c2); (try clear hX_f2)
               (try clear hX_lt)
               have hX_lt := hX.lt; (try simp only [World.size_alloc] at hX_lt)
               have hX_c0 := hX.cell 0; have hX_f0 := hX.frozen 0
               have hX_c1 := hX.cell 1; have hX_f1 := hX.frozen 1
               have hX_c2 := hX.cell 2; have hX_f2 := hX.frozen 2
               simp only [List.getElem?_toArray, List.getElem?_cons_zero, List.getElem?_cons_succ] at hX_c0 hX_c1 hX_c2
               replace hR := hR.below hb1 (by first | omega | exact hR.lt | (simp; done) | (simp; omega))
               (try clear hR_c0); (try clear hR_f0)
               (try clear hR_c1); (try clear hR_f1)
               (try clear hR_c2); (try clear hR_f2)
               (try clear hR_lt)
               have hR_lt := hR.lt; (try simp only [World.size_alloc] at hR_lt)
               have hR_c0 := hR.cell 0; have hR_f0 := hR.frozen 0
               have hR_c1 := hR.cell 1; have hR_f1 := hR.frozen 1
               have hR_c2 := hR.cell 2; have hR_f2 := hR.frozen 2
               simp only [List.getElem?_toArray, List.getElem?_cons_zero, List.getElem?_cons_succ] at hR_c0 hR_c1 hR_c2
               replace hP := hP.below hb1 (by first | omega | exact hP.lt | (simp; done) | (simp; omega))
               (try clear hP_c0); (try clear hP_f0)
               (try clear hP_c1); (try clear hP_f1)
               (try clear hP_c2); (try clear hP_f2)
               (try clear hP_c3); (try clear hP_f3)
               (try clear hP_c4); (try clear hP_f4)
               (try clear hP_c5); (try clear hP_f5)
               (try clear hP_lt)
               have hP_lt := hP.lt; (try simp only [World.size_alloc] at hP_lt)
               have hP_c0 := hP.cell 0; have hP_f0 := hP.frozen 0
               have hP_c1 := hP.cell 1; have hP_f1 := hP.frozen 1
               have hP_c2 := hP.cell 2; have hP_f2 := hP.frozen 2
               have hP_c3 := hP.cell 3; have hP_f3 := hP.frozen 3
               have hP_c4 := hP.cell 4; have hP_f4 := hP.frozen 4
               have hP_c5 := hP.cell 5; have hP_f5 := hP.frozen 5
               simp only [List.getElem?_toArray, List.getElem?_cons_zero, List.getElem?_cons_succ] at hP_c0 hP_c1 hP_c2 hP_c3 hP_c4 hP_c5
               replace c0 := (hBa.cell (p := ⟨b, off + k * 6, none⟩) hb).trans c0
               replace c1 := (hBa.cell (p := ⟨b, off + k * 6 + 1, none⟩) hb).trans c1
               replace c2 := (hBa.cell (p := ⟨b, off + k * 6 + 2, none⟩) hb).trans c2
               replace c3 := (hBa.cell (p := ⟨b, off + k * 6 + 3, none⟩) hb).trans c3
               replace c4 := (hBa.cell (p := ⟨b, off + k * 6 + 4, none⟩) hb).trans c4
               replace c5 := (hBa.cell (p := ⟨b, off + k * 6 + 5, none⟩) hb).trans c5
               clear hb1))
          go_region
          all_goals
            go_wp2
            refine ⟨rfl, ?_⟩
            apply Exists.intro
            apply And.intro
            · simp [results, Tryz.results49, go_sem, hR_c0, hR_c1, hR_c2, hP_c0, hP_c1, hP_c2, hP_c3, hP_c4, hP_c5, hR_lt, hP_lt]; exact rfl
            · exact HN.out _ (by repeat (first | with_reducible exact hBa | with_reducible exact hBa.size | with_reducible refine Below.setCell ?_ ?_ _ | with_reducible exact le2 w | with_reducible exact le3 w | with_reducible refine Below.alloc ?_ ?_ _ | with_reducible refine Below.drewN' ?_ _ | with_reducible refine Below.drew ?_ | (simp only [World.size_setCell]; with_reducible exact hBa.size) | (show w.heap.size ≤ w.heap.size + 1 + 1; omega) | (show w.heap.size ≤ w.heap.size + 1 + 1 + 1; omega)))
        | true =>
          have hky : p.ky = true := by
            cases hh : p.ky with
            | true => rfl
            | false => exact absurd ⟨rfl, hh⟩ q3
          rw [hky] at c4 HN
          clear q3
          go_enter Tryz.func49, Tryz.ntmps49
          go_wp2_with (first
            | (go_at_call 66
               refine (HVV.out _ hBa).mono ?_
               rintro e w1 ⟨rfl, hb1⟩
               replace hBa := hBa.trans (hb1.mono hBa.size); replace hbw : b < w1.heap.size := by (have := hBa.size; omega)
               replace hD := hD.below hb1 (by first | omega | exact hD.lt | (simp; done) | (simp; omega))
               (try clear hD_c0); (try clear hD_f0)
               (try clear hD_c1); (try clear hD_f1)
               (try clear hD_c2); (try clear hD_f2)
               (try clear hD_lt)
               have hD_lt := hD.lt; (try simp only [World.size_alloc] at hD_lt)
               have hD_c0 := hD.cell 0; have hD_f0 := hD.frozen 0
               have hD_c1 := hD.cell 1; have hD_f1 := hD.frozen 1
               have hD_c2 := hD.cell 2; have hD_f2 := hD.frozen 2
               simp only [List.getElem?_toArray, List.getElem?_cons_zero, List.getElem?_cons_succ] at hD_c0 hD_c1 hD_c2
               replace hX := hX.below hb1 (by first | omega | exact hX.lt | (simp; done) | (simp; omega))
               (try clear hX_c0); (try clear hX_f0)
               (try clear hX_c1); (try clear hX_f1)
               (try clear hX_c2); (try clear hX_f2)
               (try clear hX_lt)
               have hX_lt := hX.lt; (try simp only [World.size_alloc] at hX_lt)
               have hX_c0 := hX.cell 0; have hX_f0 := hX.frozen 0
               have hX_c1 := hX.cell 1; have hX_f1 := hX.frozen 1
               have hX_c2 := hX.cell 2; have hX_f2 := hX.frozen 2
               simp only [List.getElem?_toArray, List.getElem?_cons_zero, List.getElem?_cons_succ] at hX_c0 hX_c1 hX_c2
               replace hR := hR.below hb1 (by first | omega | exact hR.lt | (simp; done) | (simp; omega))
               (try clear hR_c0); (try clear hR_f0)
               (try clear hR_c1); (try clear hR_f1)
               (try clear hR_c2); (try clear hR_f2)
               (try clear hR_lt)
               have hR_lt := hR.lt; (try simp only [World.size_alloc] at hR_lt)
               have hR_c0 := hR.cell 0; have hR_f0 := hR.frozen 0
               have hR_c1 := hR.cell 1; have hR_f1 := hR.frozen 1
               have hR_c2 := hR.cell 2; have hR_f2 := hR.frozen 2
               simp only [List.getElem?_toArray, List.getElem?_cons_zero, List.getElem?_cons_succ] at hR_c0 hR_c1 hR_c2
               replace hP := hP.below hb1 (by first | omega | exact hP.lt | (simp; done) | (simp; omega))
               (try clear hP_c0); (try clear hP_f0)
               (try clear hP_c1); (try clear hP_f1)
               (try clear hP_c2); (try clear hP_f2)
               (try clear hP_c3); (try clear hP_f3)
               (try clear hP_c4); (try clear hP_f4)
               (try clear hP_c5); (try clear hP_f5)
               (try clear hP_lt)
               have hP_lt := hP.lt; (try simp only [World.size_alloc] at hP_lt)
               have hP_c0 := hP.cell 0; have hP_f0 := hP.frozen 0
               have hP_c1 := hP.cell 1; have hP_f1 := hP.frozen 1
               have hP_c2 := hP.cell 2; have hP_f2 := hP.frozen 2
               have hP_c3 := hP.cell 3; have hP_f3 := hP.frozen 3
               have hP_c4 := hP.cell 4; have hP_f4 := hP.frozen 4
               have hP_c5 := hP.cell 5; have hP_f5 := hP.frozen 5
               simp only [List.getElem?_toArray, List.getElem?_cons_zero, List.getElem?_cons_succ] at hP_c0 hP_c1 hP_c2 hP_c3 hP_c4 hP_c5
               replace c0 := (hBa.cell (p := ⟨b, off + k * 6, none⟩) hb).trans c0
               replace c1 := (hBa.cell (p := ⟨b, off + k * 6 + 1, none⟩) hb).trans c1
               replace c2 := (hBa.cell (p := ⟨b, off + k * 6 + 2, none⟩) hb).trans c2
               replace c3 := (hBa.cell (p := ⟨b, off + k * 6 + 3, none⟩) hb).trans c3
               replace c4 := (hBa.cell (p := ⟨b, off + k * 6 + 4, none⟩) hb).trans c4
               replace c5 := (hBa.cell (p := ⟨b, off + k * 6 + 5, none⟩) hb).trans c5
               clear hb1))
          go_region
          all_goals
            go_wp2
            refine ⟨rfl, ?_⟩
            apply Exists.intro
            apply And.intro
            · simp [results, Tryz.results49, go_sem, hR_c0, hR_c1, hR_c2, hP_c0, hP_c1, hP_c2, hP_c3, hP_c4, hP_c5, hR_lt, hP_lt]; exact rfl
            · exact HN.out _ (by repeat (first | with_reducible exact hBa | with_reducible exact hBa.size | with_reducible refine Below.setCell ?_ ?_ _ | with_reducible exact le2 w | with_reducible exact le3 w | with_reducible refine Below.alloc ?_ ?_ _ | with_reducible refine Below.drewN' ?_ _ | with_reducible refine Below.drew ?_ | (simp only [World.size_setCell]; with_reducible exact hBa.size) | (show w.heap.size ≤ w.heap.size + 1 + 1; omega) | (show w.heap.size ≤ w.heap.size + 1 + 1 + 1; omega)))

end Go.Proofs.YthbkmnladaneaaaGreatDoor
