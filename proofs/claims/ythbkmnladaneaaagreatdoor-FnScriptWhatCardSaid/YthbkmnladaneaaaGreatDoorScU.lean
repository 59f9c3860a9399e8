/-
  Scripts: reading a packet, in the program.
  Conditions: the state is valid (scOk), its packets lie at the world.
-/
import Derived.Test.YthbkmnladaneaaaGreatDoorScT
namespace Go.Proofs.YthbkmnladaneaaaGreatDoor
open Go.RowKit
set_option linter.unusedVariables false
set_option linter.unusedSimpArgs false
set_option maxRecDepth 100000

set_option maxHeartbeats 1000000 in
theorem afterGot_any (p : Pk) (nx lo : Int) (wt : Bool) (w : World) (h0 : 0 ≤ nx) (h1 : nx ≤ 999999) :
    Calls Tryz.prog 125 #[.agg #[.int .i64 p.wi, .int .i64 p.ti, .int .i64 p.la, .int .i64 p.si, .bool p.ky, .bool p.en], .agg #[.int .i64 nx, .int .i64 lo, .bool wt]] w fun e w' => e = .returned (.agg #[.int .i64 (nx + 1), .int .i64 lo, .bool false]) ∧ Below w.heap.size w w' := by
  go_enter Tryz.func125, Tryz.ntmps125
  go_wp2
  exact bodyPost_ret (v := .agg #[.int .i64 (nx + 1), .int .i64 lo, .bool false]) (by simp [results, Tryz.results125, go_sem]) rfl ⟨rfl, (by repeat (first | exact Below.refl _ _ | assumption | refine Below.setCell ?_ (by first | omega | (simp; done) | (simp; omega)) _ | refine Below.alloc ?_ (by first | omega | (simp; done) | (simp; omega)) _ | refine Below.drew ?_ | refine Below.drewN' ?_ _ | refine Below.trans ?_ (Below.mono (by assumption) (by first | omega | (simp; done) | (simp; omega)))))⟩
set_option maxHeartbeats 1000000 in
theorem afterNone_any (nx lo : Int) (wt : Bool) (w : World) :
    Calls Tryz.prog 127 #[.agg #[], .agg #[.int .i64 nx, .int .i64 lo, .bool wt]] w fun e w' => e = .returned (.agg #[.int .i64 nx, .int .i64 lo, .bool wt]) ∧ Below w.heap.size w w' := by
  go_enter Tryz.func127, Tryz.ntmps127
  go_wp2
  exact bodyPost_ret (v := .agg #[.int .i64 nx, .int .i64 lo, .bool wt]) (by simp [results, Tryz.results127, go_sem]) rfl ⟨rfl, (by repeat (first | exact Below.refl _ _ | assumption | refine Below.setCell ?_ (by first | omega | (simp; done) | (simp; omega)) _ | refine Below.alloc ?_ (by first | omega | (simp; done) | (simp; omega)) _ | refine Below.drew ?_ | refine Below.drewN' ?_ _ | refine Below.trans ?_ (Below.mono (by assumption) (by first | omega | (simp; done) | (simp; omega)))))⟩
set_option maxHeartbeats 1000000 in
theorem afterLost_any (m : Int) (b : Bool) (nx lo : Int) (wt : Bool) (w : World) (h0 : 0 ≤ nx) (h1 : nx ≤ 999999) (h2 : 0 ≤ lo) (h3 : lo ≤ 999999) (h4 : 0 ≤ m) (h5 : m ≤ 999999) :
    Calls Tryz.prog 126 #[.agg #[.int .i64 m, .bool b], .agg #[.int .i64 nx, .int .i64 lo, .bool wt]] w fun e w' => e = .returned (.agg #[.int .i64 m, .int .i64 (min (lo + m - nx) 999999), .bool b]) ∧ Below w.heap.size w w' := by
  have hmin := fun (w : World) (ts : Array TypeId) (t : TypeId) (x y : Int) => @run_min_plain Tryz.prog w ts t x y
  go_enter Tryz.func126, Tryz.ntmps126
  go_wp2
  exact bodyPost_ret (v := .agg #[.int .i64 m, .int .i64 (min (lo + m - nx) 999999), .bool b]) (by simp [results, Tryz.results126, go_sem]) rfl ⟨rfl, (by repeat (first | exact Below.refl _ _ | assumption | refine Below.setCell ?_ (by first | omega | (simp; done) | (simp; omega)) _ | refine Below.alloc ?_ (by first | omega | (simp; done) | (simp; omega)) _ | refine Below.drew ?_ | refine Below.drewN' ?_ _ | refine Below.trans ?_ (Below.mono (by assumption) (by first | omega | (simp; done) | (simp; omega)))))⟩

/-- What the program finds, as a value of the interface 'reading'. -/
def foundV (s : Sc) : Took → Value
  | .got p => .iface 122 p.v
  | .none => .iface 140 (.agg #[])
  | .lost => .iface 124 (.agg #[.int .i64 (takeS s).1.nx, .bool (takeS s).1.wt])
def OnceRet (s : Sc) (w : World) (e : Ending) (w' : World) : Prop := e = .returned (foundV s (takeS s).2) ∧ Below w.heap.size w w'
theorem or_far {s : Sc} (h : s.nx < oldI s) (w w' : World) (hb : Below w.heap.size w w') : OnceRet s w (.returned (.iface 124 (lostV (goN s.co s.xs (oldI s))))) w' := by
  refine ⟨?_, hb⟩
  rw [take_far h]
  show _ = Ending.returned (.iface _ (.agg #[.int .i64 (takeS s).1.nx, .bool (takeS s).1.wt]))
  rw [take_far h, skipS_eq]
  rfl
theorem or_end {s : Sc} (h : ¬ s.nx < oldI s) (h2 : s.nx = s.co) (w w' : World) (hb : Below w.heap.size w w') : OnceRet s w (.returned (.iface 140 (.agg #[]))) w' := ⟨by rw [take_end h h2]; rfl, hb⟩
theorem or_wait {s : Sc} (h : ¬ s.nx < oldI s) (h2 : ¬ s.nx = s.co) (k : Nat) (p : Pk) (hk : s.nx - oldI s = (k : Int)) (hp : s.xs[k]? = some p) (h3 : s.wt = true) (h4 : p.ky = false) (w w' : World) (hb : Below w.heap.size w w') : OnceRet s w (.returned (.iface 124 (lostV (goN s.co s.xs s.nx)))) w' := by
  have e := take_wait h h2 (by rw [hk]; rfl) hp ⟨h3, h4⟩
  refine ⟨?_, hb⟩
  rw [e]
  show _ = Ending.returned (.iface _ (.agg #[.int .i64 (takeS s).1.nx, .bool (takeS s).1.wt]))
  rw [e, skipS_eq]
  rfl
theorem or_got {s : Sc} (h : ¬ s.nx < oldI s) (h2 : ¬ s.nx = s.co) (k : Nat) (p : Pk) (hk : s.nx - oldI s = (k : Int)) (hp : s.xs[k]? = some p) (h3 : ¬ (s.wt = true ∧ p.ky = false)) (w w' : World) (hb : Below w.heap.size w w') :
    OnceRet s w (.returned (.iface 122 (.agg #[.int .i64 p.wi, .int .i64 p.ti, .int .i64 p.la, .int .i64 p.si, .bool p.ky, .bool p.en]))) w' := ⟨by rw [take_got h h2 (by rw [hk]; rfl) hp h3]; rfl, hb⟩
set_option maxHeartbeats 8000000 in
theorem once_any (s : Sc) (A : Option Addr) (c : Nat) (w : World) (h : Pks w w.heap.size A s.xs.length s.xs) (hok : scOk s) :
    Calls Tryz.prog 90 #[rgV s A c, rdV s] w (OnceRet s w) := by
  obtain ⟨hl4, hlc, hc0, hc1⟩ := scOk_len hok
  obtain ⟨-, hn0, hn1, ho0, ho1⟩ := id hok
  have hold : oldI s = s.co - (s.xs.length : Int) := rfl
  have HSA := Lib.hid (fun (w' : World) (hw : Below w.heap.size w w') => goOn_any 4 s.co A s.xs.length c s.xs (oldI s) w' ((h.below hw).more hw.size) (by omega) hc0 hc1 hlc (by omega) (by omega))
  have HSB := Lib.hid (fun (w' : World) (hw : Below w.heap.size w w') => goOn_any 4 s.co A s.xs.length c s.xs s.nx w' ((h.below hw).more hw.size) (by omega) hc0 hc1 hlc (by omega) (by omega))
  have HFAR := Lib.hid (fun h1 => or_far (s := s) h1 w)
  have HEND := Lib.hid (fun h1 h2 => or_end (s := s) h1 h2 w)
  have HWAIT := Lib.hid (fun h1 h2 k p hk hp h3 h4 => or_wait (s := s) h1 h2 k p hk hp h3 h4 w)
  have HGOT := Lib.hid (fun h1 h2 k p hk hp h3 => or_got (s := s) h1 h2 k p hk hp h3 w)
  clear hok
  generalize OnceRet s w = R at *
  unfold rgV rdV at *
  rw [hold] at *
  generalize lostV (goN s.co s.xs (s.co - (s.xs.length : Int))) = va at *
  generalize lostV (goN s.co s.xs s.nx) = vb at *
  clear hold
  generalize s.xs = xs at *
  generalize s.co = co at *
  generalize s.nx = nx at *
  generalize s.lo = lo at *
  generalize s.wt = wt at *
  have hxl := h.len
  generalize hn : xs.length = n at *
  have hD := (Bk.new w 34 #[.int .i64 4, .int .i64 co, .slice A n c]).alloc (.cells #[.int .i64 nx, .int .i64 lo, .bool wt] 36)
  have hX := bk_new1 w (.cells #[.int .i64 4, .int .i64 co, .slice A n c] 34) 36 #[.int .i64 nx, .int .i64 lo, .bool wt]
  have hBa : Below w.heap.size w ((w.alloc (.cells #[.int .i64 4, .int .i64 co, .slice A n c] 34)).alloc (.cells #[.int .i64 nx, .int .i64 lo, .bool wt] 36)) := (by repeat (first | exact Below.refl _ _ | assumption | refine Below.setCell ?_ (by first | omega | (simp; done) | (simp; omega)) _ | refine Below.alloc ?_ (by first | omega | (simp; done) | (simp; omega)) _ | refine Below.drew ?_ | refine Below.drewN' ?_ _ | refine Below.trans ?_ (Below.mono (by assumption) (by first | omega | (simp; done) | (simp; omega)))))
  (try clear hD_c0); (try clear hD_f0)
  (try clear hD_c1); (try clear hD_f1)
  (try clear hD_c2); (try clear hD_f2)
  (try clear hD_lt)
  have hD_lt := hD.lt; (try simp only [World.size_alloc] at hD_lt)
  have hD_c0 := hD.cell 0; have hD_f0 := hD.frozen 0
  have hD_c1 := hD.cell 1; have hD_f1 := hD.frozen 1
  have hD_c2 := hD.cell 2; have hD_f2 := hD.frozen 2
  simp only [List.getElem?_toArray, List.getElem?_cons_zero, List.getElem?_cons_succ] at hD_c0 hD_c1 hD_c2
  (try clear hX_c0); (try clear hX_f0)
  (try clear hX_c1); (try clear hX_f1)
  (try clear hX_c2); (try clear hX_f2)
  (try clear hX_lt)
  have hX_lt := hX.lt; (try simp only [World.size_alloc] at hX_lt)
  have hX_c0 := hX.cell 0; have hX_f0 := hX.frozen 0
  have hX_c1 := hX.cell 1; have hX_f1 := hX.frozen 1
  have hX_c2 := hX.cell 2; have hX_f2 := hX.frozen 2
  simp only [List.getElem?_toArray, List.getElem?_cons_zero, List.getElem?_cons_succ] at hX_c0 hX_c1 hX_c2
  by_cases q1 : nx < (co - (n : Int))
  · have d1 : decide (nx < (co - (n : Int))) = true := by simpa using q1
    have HN := Lib.hid (HFAR.out q1)
    go_enter Tryz.func90, Tryz.ntmps90
    go_wp2_with (first
      | (go_at_call 92
         refine (HSA.out _ hBa).mono ?_
         rintro e w1 ⟨rfl, hb1⟩
         replace hBa := hBa.trans (hb1.mono hBa.size)
         replace hD := hD.below hb1 (by first | omega | exact hD.lt | (simp; done) | (simp; omega))
         (try clear hD_c0); (try clear hD_f0)
         (try clear hD_c1); (try clear hD_f1)
         (try clear hD_c2); (try clear hD_f2)
         (try clear hD_lt)
         have hD_lt := hD.lt; (try simp only [World.size_alloc] at hD_lt)
         have hD_c0 := hD.cell 0; have hD_f0 := hD.frozen 0
         have hD_c1 := hD.cell 1; have hD_f1 := hD.frozen 1
         have hD_c2 := hD.cell 2; have hD_f2 := hD.frozen 2
         simp only [List.getElem?_toArray, List.getElem?_cons_zero, List.getElem?_cons_succ] at hD_c0 hD_c1 hD_c2
         replace hX := hX.below hb1 (by first | omega | exact hX.lt | (simp; done) | (simp; omega))
         (try clear hX_c0); (try clear hX_f0)
         (try clear hX_c1); (try clear hX_f1)
         (try clear hX_c2); (try clear hX_f2)
         (try clear hX_lt)
         have hX_lt := hX.lt; (try simp only [World.size_alloc] at hX_lt)
         have hX_c0 := hX.cell 0; have hX_f0 := hX.frozen 0
         have hX_c1 := hX.cell 1; have hX_f1 := hX.frozen 1
         have hX_c2 := hX.cell 2; have hX_f2 := hX.frozen 2
         simp only [List.getElem?_toArray, List.getElem?_cons_zero, List.getElem?_cons_succ] at hX_c0 hX_c1 hX_c2
         clear hb1))
    (try go_ret)
    refine HN.out _ ?_
    exact (by repeat (first | with_reducible exact hBa | with_reducible exact hBa.size | with_reducible refine Below.setCell ?_ ?_ _ | with_reducible exact le2 w | with_reducible exact le3 w | with_reducible refine Below.alloc ?_ ?_ _ | with_reducible refine Below.drewN' ?_ _ | with_reducible refine Below.drew ?_ | (simp only [World.size_setCell]; with_reducible exact hBa.size) | (show w.heap.size ≤ w.heap.size + 1 + 1; omega) | (show w.heap.size ≤ w.heap.size + 1 + 1 + 1; omega)))
  · have d1 : decide (nx < (co - (n : Int))) = false := by simpa using q1
    by_cases q2 : nx = co
    · have d2 : (nx == co) = true := by simpa using q2
      have HN := Lib.hid (HEND.out q1 q2)
      clear q2
      go_enter Tryz.func90, Tryz.ntmps90
      go_wp2_with fail
      (try go_ret)
      refine HN.out _ ?_
      exact (by repeat (first | with_reducible exact hBa | with_reducible exact hBa.size | with_reducible refine Below.setCell ?_ ?_ _ | with_reducible exact le2 w | with_reducible exact le3 w | with_reducible refine Below.alloc ?_ ?_ _ | with_reducible refine Below.drewN' ?_ _ | with_reducible refine Below.drew ?_ | (simp only [World.size_setCell]; with_reducible exact hBa.size) | (show w.heap.size ≤ w.heap.size + 1 + 1; omega) | (show w.heap.size ≤ w.heap.size + 1 + 1 + 1; omega)))
    · have d2 : (nx == co) = false := by simpa using q2
      obtain ⟨k, hk⟩ : ∃ k : Nat, nx - (co - (n : Int)) = (k : Int) := ⟨(nx - (co - (n : Int))).toNat, by omega⟩
      have hkn : k < n := by omega
      have hw1 : IntKind.i64.wrap (nx - (co - (n : Int))) = (k : Int) := by rw [IntKind.wrap_i64]; omega
      obtain ⟨b, off, rfl, hb, hcell⟩ := h.addr (by omega)
      obtain ⟨p, hp⟩ : ∃ p, xs[k]? = some p := ⟨_, List.getElem?_eq_getElem (by omega)⟩
      obtain ⟨c0, c1, c2, c3, c4, c5⟩ := hcell k p hp
      have HW := Lib.hid (HWAIT.out q1 q2 k p hk hp)
      have HG := Lib.hid (HGOT.out q1 q2 k p hk hp)
      clear hcell h hp q2 hn hxl
      by_cases q3 : wt = true ∧ p.ky = false
      · have HN := Lib.hid (HW.out q3.1 q3.2)
        have q4 := q3.1
        rw [q3.2] at c4
        subst q4
        clear q3
        go_enter Tryz.func90, Tryz.ntmps90
        go_wp2_with (first
          | (go_at_call 92
             refine (HSB.out _ (hBa.alloc hBa.size _)).mono ?_
             rintro e w2 ⟨rfl, hb3⟩
             have hb1 := ((Below.refl (((w.alloc (.cells #[.int .i64 4, .int .i64 co, .slice (some ⟨b, off, none⟩) n c] 34)).alloc (.cells #[.int .i64 nx, .int .i64 lo, .bool true] 36))).heap.size ((w.alloc (.cells #[.int .i64 4, .int .i64 co, .slice (some ⟨b, off, none⟩) n c] 34)).alloc (.cells #[.int .i64 nx, .int .i64 lo, .bool true] 36))).alloc (Nat.le_refl _) _).trans (hb3.mono (by simp only [World.size_alloc]; omega)); clear hb3; replace hBa := hBa.trans (hb1.mono hBa.size)
             replace hD := hD.below hb1 (by first | omega | exact hD.lt | (simp; done) | (simp; omega))
             (try clear hD_c0); (try clear hD_f0)
             (try clear hD_c1); (try clear hD_f1)
             (try clear hD_c2); (try clear hD_f2)
             (try clear hD_lt)
             have hD_lt := hD.lt; (try simp only [World.size_alloc] at hD_lt)
             have hD_c0 := hD.cell 0; have hD_f0 := hD.frozen 0
             have hD_c1 := hD.cell 1; have hD_f1 := hD.frozen 1
             have hD_c2 := hD.cell 2; have hD_f2 := hD.frozen 2
             simp only [List.getElem?_toArray, List.getElem?_cons_zero, List.getElem?_cons_succ] at hD_c0 hD_c1 hD_c2
             replace hX := hX.below hb1 (by first | omega | exact hX.lt | (simp; done) | (simp; omega))
             (try clear hX_c0); (try clear hX_f0)
             (try clear hX_c1); (try clear hX_f1)
             (try clear hX_c2); (try clear hX_f2)
             (try clear hX_lt)
             have hX_lt := hX.lt; (try simp only [World.size_alloc] at hX_lt)
             have hX_c0 := hX.cell 0; have hX_f0 := hX.frozen 0
             have hX_c1 := hX.cell 1; have hX_f1 := hX.frozen 1
             have hX_c2 := hX.cell 2; have hX_f2 := hX.frozen 2
             simp only [List.getElem?_toArray, List.getElem?_cons_zero, List.getElem?_cons_succ] at hX_c0 hX_c1 hX_c2
             clear hb1))
        (try go_ret)
        refine HN.out _ ?_
        exact (by repeat (first | with_reducible exact hBa | with_reducible exact hBa.size | with_reducible refine Below.setCell ?_ ?_ _ | with_reducible exact le2 w | with_reducible exact le3 w | with_reducible refine Below.alloc ?_ ?_ _ | with_reducible refine Below.drewN' ?_ _ | with_reducible refine Below.drew ?_ | (simp only [World.size_setCell]; with_reducible exact hBa.size) | (show w.heap.size ≤ w.heap.size + 1 + 1; omega) | (show w.heap.size ≤ w.heap.size + 1 + 1 + 1; omega)))
      · have HN := Lib.hid (HG.out q3)
        cases wt with
        | false =>
          clear q3
          go_enter Tryz.func90, Tryz.ntmps90
          go_wp2_with fail
          (try go_ret)
          refine HN.out _ ?_
          exact (by repeat (first | with_reducible exact hBa | with_reducible exact hBa.size | with_reducible refine Below.setCell ?_ ?_ _ | with_reducible exact le2 w | with_reducible exact le3 w | with_reducible refine Below.alloc ?_ ?_ _ | with_reducible refine Below.drewN' ?_ _ | with_reducible refine Below.drew ?_ | (simp only [World.size_setCell]; with_reducible exact hBa.size) | (show w.heap.size ≤ w.heap.size + 1 + 1; omega) | (show w.heap.size ≤ w.heap.size + 1 + 1 + 1; omega)))
        | true =>
          have hky : p.ky = true := by
            cases hh : p.ky with
            | true => rfl
            | false => exact absurd ⟨rfl, hh⟩ q3
          rw [hky] at c4 HN
          clear q3
          go_enter Tryz.func90, Tryz.ntmps90
          go_wp2_with fail
          (try go_ret)
          refine HN.out _ ?_
          exact (by repeat (first | with_reducible exact hBa | with_reducible exact hBa.size | with_reducible refine Below.setCell ?_ ?_ _ | with_reducible exact le2 w | with_reducible exact le3 w | with_reducible refine Below.alloc ?_ ?_ _ | with_reducible refine Below.drewN' ?_ _ | with_reducible refine Below.drew ?_ | (simp only [World.size_setCell]; with_reducible exact hBa.size) | (show w.heap.size ≤ w.heap.size + 1 + 1; omega) | (show w.heap.size ≤ w.heap.size + 1 + 1 + 1; omega)))

end Go.Proofs.YthbkmnladaneaaaGreatDoor
