/-
  Scripts: the program's ReaderTake.
  Conditions: the state is valid (scOk), its packets lie at the world.
-/
import Derived.Test.YthbkmnladaneaaaGreatDoorScU
namespace Go.Proofs.YthbkmnladaneaaaGreatDoor
open Go.RowKit
set_option linter.unusedVariables false
set_option linter.unusedSimpArgs false
set_option maxRecDepth 100000

theorem le_set {a : Nat} {w : World} {p : Addr} {u : Value} (h : a ≤ w.heap.size) : a ≤ (w.setCell p u).heap.size := by rwa [World.size_setCell]
theorem le_all {a : Nat} {w : World} {o : Obj} (h : a ≤ w.heap.size) : a ≤ (w.alloc o).heap.size := by rw [size1]; omega
theorem inv_got {s s' : Sc} {p : Pk} (h : takeS s = (s', .got p)) : s' = { s with nx := s.nx + 1, wt := false } := by
  unfold takeS at h
  split at h
  · cases h
  · split at h
    · cases h
    · split at h
      · cases h
      · split at h
        · cases h
        · cases h; rfl
theorem inv_none {s s' : Sc} (h : takeS s = (s', .none)) : s' = s := by
  unfold takeS at h
  split at h
  · cases h
  · split at h
    · cases h; rfl
    · split at h
      · cases h; rfl
      · split at h <;> cases h
theorem inv_lost {s s' : Sc} (h : takeS s = (s', .lost)) : s'.lo = min (s.lo + s'.nx - s.nx) 999999 := by
  unfold takeS at h
  split at h
  · cases h; rw [skipS_eq]
  · split at h
    · cases h
    · split at h
      · cases h
      · split at h
        · cases h; rw [skipS_eq]
        · cases h
set_option maxHeartbeats 8000000 in
theorem itake_any (s : Sc) (A : Option Addr) (c : Nat) (w : World) (h : Pks w w.heap.size A s.xs.length s.xs) (hok : scOk s) :
    Calls Tryz.prog 77 #[rgV s A c, rdV s] w (TakeRet s w) := by
  have HV := Lib.hid (fun (w' : World) (hw : Below w.heap.size w w') => ival_any s A c w' ((h.below hw).more hw.size) hok)
  have HO := Lib.hid (fun (w' : World) (hw : Below w.heap.size w w') => once_any s A c w' ((h.below hw).more hw.size) hok)
  have hok' := take_ok hok
  obtain ⟨hl4, hlc, hc0, hc1⟩ := scOk_len hok
  obtain ⟨-, hc0', hc1', -, -⟩ := id hok'
  have hcl := (scOk_len hok').2.2.2
  obtain ⟨-, hn0, hn1, ho0, ho1⟩ := id hok
  have HT := Lib.hid (fun (w' : World) (hb : Below w.heap.size w w') => (⟨rfl, hb⟩ : TakeRet s w _ w'))
  unfold OnceRet at HO
  have hg1 : ∀ (k : Nat) (p : Pk) (w : World), (method (k + 1) 122 (.agg #[.int .i64 p.wi, .int .i64 p.ti, .int .i64 p.la, .int .i64 p.si, .bool p.ky, .bool p.en]) "loop.example/mediarelay/impl.after").run Tryz.prog w = .ok (125, .agg #[.int .i64 p.wi, .int .i64 p.ti, .int .i64 p.la, .int .i64 p.si, .bool p.ky, .bool p.en]) w := fun _ _ _ => by kernel_rfl
  have hg2 : ∀ (k : Nat) (w : World), (method (k + 1) 140 (.agg #[]) "loop.example/mediarelay/impl.after").run Tryz.prog w = .ok (127, .agg #[]) w := fun _ _ => by kernel_rfl
  have hg3 : ∀ (k : Nat) (m : Int) (b : Bool) (w : World), (method (k + 1) 124 (.agg #[.int .i64 m, .bool b]) "loop.example/mediarelay/impl.after").run Tryz.prog w = .ok (126, .agg #[.int .i64 m, .bool b]) w := fun _ _ _ _ => by kernel_rfl
  have ta1 : ∀ (p : Pk) (w : World), (Instr.typeAssert (.iface 122 (.agg #[.int .i64 p.wi, .int .i64 p.ti, .int .i64 p.la, .int .i64 p.si, .bool p.ky, .bool p.en])) 118 122 true).run Tryz.prog w = .ok (.tuple #[.agg #[.int .i64 p.wi, .int .i64 p.ti, .int .i64 p.la, .int .i64 p.si, .bool p.ky, .bool p.en], .bool true]) w := fun _ _ => by kernel_rfl
  have ta2 : ∀ (w : World), (Instr.typeAssert (.iface 140 (.agg #[])) 118 122 true).run Tryz.prog w = .ok (.tuple #[.agg #[.int .i64 0, .int .i64 0, .int .i64 0, .int .i64 0, .bool false, .bool false], .bool false]) w := fun _ => by kernel_rfl
  have ta3 : ∀ (w : World), (Instr.typeAssert (.iface 140 (.agg #[])) 118 124 true).run Tryz.prog w = .ok (.tuple #[.agg #[.int .i64 0, .bool false], .bool false]) w := fun _ => by kernel_rfl
  have ta4 : ∀ (m : Int) (b : Bool) (w : World), (Instr.typeAssert (.iface 124 (.agg #[.int .i64 m, .bool b])) 118 122 true).run Tryz.prog w = .ok (.tuple #[.agg #[.int .i64 0, .int .i64 0, .int .i64 0, .int .i64 0, .bool false, .bool false], .bool false]) w := fun _ _ _ => by kernel_rfl
  have ta5 : ∀ (m : Int) (b : Bool) (w : World), (Instr.typeAssert (.iface 124 (.agg #[.int .i64 m, .bool b])) 118 124 true).run Tryz.prog w = .ok (.tuple #[.agg #[.int .i64 m, .bool b], .bool true]) w := fun _ _ _ => by kernel_rfl
  cases ht : takeS s with
  | mk s' t =>
  unfold TakeRet
  rw [ht] at HO hok' hc0' hc1' hcl HT ⊢
  clear h hok hok'
  unfold rgV rdV at *
  cases t with
  | none =>
    have e := inv_none ht
    unfold foundV at HO
    rw [e]
    clear ht hc0' hc1' hcl HT e
    generalize s.xs.length = n at *
    generalize s.co = co at *
    generalize s.nx = nx at *
    generalize s.lo = lo at *
    generalize s.wt = wt at *
    have hD := (((Bk.new w 34 #[.int .i64 4, .int .i64 co, .slice A n c]).alloc (.cells #[.int .i64 nx, .int .i64 lo, .bool wt] 36)).alloc (.cells #[.int .i64 0, .int .i64 0, .bool false] 36)).alloc (.cells #[.int .i64 0, .int .i64 0, .int .i64 0, .int .i64 0, .bool false, .bool false] 81)
    have hX := ((bk_new1 w (.cells #[.int .i64 4, .int .i64 co, .slice A n c] 34) 36 #[.int .i64 nx, .int .i64 lo, .bool wt]).alloc (.cells #[.int .i64 0, .int .i64 0, .bool false] 36)).alloc (.cells #[.int .i64 0, .int .i64 0, .int .i64 0, .int .i64 0, .bool false, .bool false] 81)
    have hR := (bk_new1 (w.alloc (.cells #[.int .i64 4, .int .i64 co, .slice A n c] 34)) (.cells #[.int .i64 nx, .int .i64 lo, .bool wt] 36) 36 #[.int .i64 0, .int .i64 0, .bool false]).alloc (.cells #[.int .i64 0, .int .i64 0, .int .i64 0, .int .i64 0, .bool false, .bool false] 81)
    have hP := bk_new1 ((w.alloc (.cells #[.int .i64 4, .int .i64 co, .slice A n c] 34)).alloc (.cells #[.int .i64 nx, .int .i64 lo, .bool wt] 36)) (.cells #[.int .i64 0, .int .i64 0, .bool false] 36) 81 #[.int .i64 0, .int .i64 0, .int .i64 0, .int .i64 0, .bool false, .bool false]
    rw [size1] at hR
    rw [size1, size1] at hP
    have hBa : Below w.heap.size w ((((w.alloc (.cells #[.int .i64 4, .int .i64 co, .slice A n c] 34)).alloc (.cells #[.int .i64 nx, .int .i64 lo, .bool wt] 36)).alloc (.cells #[.int .i64 0, .int .i64 0, .bool false] 36)).alloc (.cells #[.int .i64 0, .int .i64 0, .int .i64 0, .int .i64 0, .bool false, .bool false] 81)) := (by repeat (first | exact Below.refl _ _ | assumption | refine Below.setCell ?_ (by first | omega | (simp; done) | (simp; omega)) _ | refine Below.alloc ?_ (by first | omega | (simp; done) | (simp; omega)) _ | refine Below.drew ?_ | refine Below.drewN' ?_ _ | refine Below.trans ?_ (Below.mono (by assumption) (by first | omega | (simp; done) | (simp; omega)))))
    (try clear hD_c0); (try clear hD_f0)
    (try clear hD_c1); (try clear hD_f1)
    (try clear hD_c2); (try clear hD_f2)
    (try clear hD_lt)
    have hD_lt := hD.lt; (try simp only [World.size_alloc] at hD_lt)
    have hD_c0 := hD.cell 0; have hD_f0 := hD.frozen 0
    have hD_c1 := hD.cell 1; have hD_f1 := hD.frozen 1
    have hD_c2 := hD.cell 2; have hD_f2 := hD.frozen 2
    simp only [List.getElem?_toArray, List.getElem?_cons_zero, List.getElem?_cons_succ] at hD_c0 hD_c1 hD_c2
    (try clear hX_c0); (try clear hX_f0)
    (try clear hX_c1); (try clear hX_f1)
    (try clear hX_c2); (try clear hX_f2)
    (try clear hX_lt)
    have hX_lt := hX.lt; (try simp only [World.size_alloc] at hX_lt)
    have hX_c0 := hX.cell 0; have hX_f0 := hX.frozen 0
    have hX_c1 := hX.cell 1; have hX_f1 := hX.frozen 1
    have hX_c2 := hX.cell 2; have hX_f2 := hX.frozen 2
    simp only [List.getElem?_toArray, List.getElem?_cons_zero, List.getElem?_cons_succ] at hX_c0 hX_c1 hX_c2
    (try clear hR_c0); (try clear hR_f0)
    (try clear hR_c1); (try clear hR_f1)
    (try clear hR_c2); (try clear hR_f2)
    (try clear hR_lt)
    have hR_lt := hR.lt; (try simp only [World.size_alloc] at hR_lt)
    have hR_c0 := hR.cell 0; have hR_f0 := hR.frozen 0
    have hR_c1 := hR.cell 1; have hR_f1 := hR.frozen 1
    have hR_c2 := hR.cell 2; have hR_f2 := hR.frozen 2
    simp only [List.getElem?_toArray, List.getElem?_cons_zero, List.getElem?_cons_succ] at hR_c0 hR_c1 hR_c2
    (try clear hP_c0); (try clear hP_f0)
    (try clear hP_c1); (try clear hP_f1)
    (try clear hP_c2); (try clear hP_f2)
    (try clear hP_c3); (try clear hP_f3)
    (try clear hP_c4); (try clear hP_f4)
    (try clear hP_c5); (try clear hP_f5)
    (try clear hP_lt)
    have hP_lt := hP.lt; (try simp only [World.size_alloc] at hP_lt)
    have hP_c0 := hP.cell 0; have hP_f0 := hP.frozen 0
    have hP_c1 := hP.cell 1; have hP_f1 := hP.frozen 1
    have hP_c2 := hP.cell 2; have hP_f2 := hP.frozen 2
    have hP_c3 := hP.cell 3; have hP_f3 := hP.frozen 3
    have hP_c4 := hP.cell 4; have hP_f4 := hP.frozen 4
    have hP_c5 := hP.cell 5; have hP_f5 := hP.frozen 5
    simp only [List.getElem?_toArray, List.getElem?_cons_zero, List.getElem?_cons_succ] at hP_c0 hP_c1 hP_c2 hP_c3 hP_c4 hP_c5
    go_enter Tryz.func77, Tryz.ntmps77
    go_wp2_with (first
      | (go_at_call 89
         refine (HV.out _ hBa).mono ?_
         rintro e w1 ⟨rfl, hb1⟩
         replace hBa := hBa.trans (hb1.mono hBa.size)
         replace hD := hD.below hb1 (by first | omega | exact hD.lt | (simp; done) | (simp; omega))
         (try clear hD_c0); (try clear hD_f0)
         (try clear hD_c1); (try clear hD_f1)
         (try clear hD_c2); (try clear hD_f2)
         (try clear hD_lt)
         have hD_lt := hD.lt; (try simp only [World.size_alloc] at hD_lt)
         have hD_c0 := hD.cell 0; have hD_f0 := hD.frozen 0
         have hD_c1 := hD.cell 1; have hD_f1 := hD.frozen 1
         have hD_c2 := hD.cell 2; have hD_f2 := hD.frozen 2
         simp only [List.getElem?_toArray, List.getElem?_cons_zero, List.getElem?_cons_succ] at hD_c0 hD_c1 hD_c2
         replace hX := hX.below hb1 (by first | omega | exact hX.lt | (simp; done) | (simp; omega))
         (try clear hX_c0); (try clear hX_f0)
         (try clear hX_c1); (try clear hX_f1)
         (try clear hX_c2); (try clear hX_f2)
         (try clear hX_lt)
         have hX_lt := hX.lt; (try simp only [World.size_alloc] at hX_lt)
         have hX_c0 := hX.cell 0; have hX_f0 := hX.frozen 0
         have hX_c1 := hX.cell 1; have hX_f1 := hX.frozen 1
         have hX_c2 := hX.cell 2; have hX_f2 := hX.frozen 2
         simp only [List.getElem?_toArray, List.getElem?_cons_zero, List.getElem?_cons_succ] at hX_c0 hX_c1 hX_c2
         replace hR := hR.below hb1 (by first | omega | exact hR.lt | (simp; done) | (simp; omega))
         (try clear hR_c0); (try clear hR_f0)
         (try clear hR_c1); (try clear hR_f1)
         (try clear hR_c2); (try clear hR_f2)
         (try clear hR_lt)
         have hR_lt := hR.lt; (try simp only [World.size_alloc] at hR_lt)
         have hR_c0 := hR.cell 0; have hR_f0 := hR.frozen 0
         have hR_c1 := hR.cell 1; have hR_f1 := hR.frozen 1
         have hR_c2 := hR.cell 2; have hR_f2 := hR.frozen 2
         simp only [List.getElem?_toArray, List.getElem?_cons_zero, List.getElem?_cons_succ] at hR_c0 hR_c1 hR_c2
         replace hP := hP.below hb1 (by first | omega | exact hP.lt | (simp; done) | (simp; omega))
         (try clear hP_c0); (try clear hP_f0)
         (try clear hP_c1); (try clear hP_f1)
         (try clear hP_c2); (try clear hP_f2)
         (try clear hP_c3); (try clear hP_f3)
         (try clear hP_c4); (try clear hP_f4)
         (try clear hP_c5); (try clear hP_f5)
         (try clear hP_lt)
         have hP_lt := hP.lt; (try simp only [World.size_alloc] at hP_lt)
         have hP_c0 := hP.cell 0; have hP_f0 := hP.frozen 0
         have hP_c1 := hP.cell 1; have hP_f1 := hP.frozen 1
         have hP_c2 := hP.cell 2; have hP_f2 := hP.frozen 2
         have hP_c3 := hP.cell 3; have hP_f3 := hP.frozen 3
         have hP_c4 := hP.cell 4; have hP_f4 := hP.frozen 4
         have hP_c5 := hP.cell 5; have hP_f5 := hP.frozen 5
         simp only [List.getElem?_toArray, List.getElem?_cons_zero, List.getElem?_cons_succ] at hP_c0 hP_c1 hP_c2 hP_c3 hP_c4 hP_c5
         clear hb1)
      | (go_at_call 90
         refine (HO.out _ hBa).mono ?_
         rintro e w1 ⟨rfl, hb1⟩
         replace hBa := hBa.trans (hb1.mono hBa.size)
         replace hD := hD.below hb1 (by first | omega | exact hD.lt | (simp; done) | (simp; omega))
         (try clear hD_c0); (try clear hD_f0)
         (try clear hD_c1); (try clear hD_f1)
         (try clear hD_c2); (try clear hD_f2)
         (try clear hD_lt)
         have hD_lt := hD.lt; (try simp only [World.size_alloc] at hD_lt)
         have hD_c0 := hD.cell 0; have hD_f0 := hD.frozen 0
         have hD_c1 := hD.cell 1; have hD_f1 := hD.frozen 1
         have hD_c2 := hD.cell 2; have hD_f2 := hD.frozen 2
         simp only [List.getElem?_toArray, List.getElem?_cons_zero, List.getElem?_cons_succ] at hD_c0 hD_c1 hD_c2
         replace hX := hX.below hb1 (by first | omega | exact hX.lt | (simp; done) | (simp; omega))
         (try clear hX_c0); (try clear hX_f0)
         (try clear hX_c1); (try clear hX_f1)
         (try clear hX_c2); (try clear hX_f2)
         (try clear hX_lt)
         have hX_lt := hX.lt; (try simp only [World.size_alloc] at hX_lt)
         have hX_c0 := hX.cell 0; have hX_f0 := hX.frozen 0
         have hX_c1 := hX.cell 1; have hX_f1 := hX.frozen 1
         have hX_c2 := hX.cell 2; have hX_f2 := hX.frozen 2
         simp only [List.getElem?_toArray, List.getElem?_cons_zero, List.getElem?_cons_succ] at hX_c0 hX_c1 hX_c2
         replace hR := hR.below hb1 (by first | omega | exact hR.lt | (simp; done) | (simp; omega))
         (try clear hR_c0); (try clear hR_f0)
         (try clear hR_c1); (try clear hR_f1)
         (try clear hR_c2); (try clear hR_f2)
         (try clear hR_lt)
         have hR_lt := hR.lt; (try simp only [World.size_alloc] at hR_lt)
         have hR_c0 := hR.cell 0; have hR_f0 := hR.frozen 0
         have hR_c1 := hR.cell 1; have hR_f1 := hR.frozen 1
         have hR_c2 := hR.cell 2; have hR_f2 := hR.frozen 2
         simp only [List.getElem?_toArray, List.getElem?_cons_zero, List.getElem?_cons_succ] at hR_c0 hR_c1 hR_c2
         replace hP := hP.below hb1 (by first | omega | exact hP.lt | (simp; done) | (simp; omega))
         (try clear hP_c0); (try clear hP_f0)
         (try clear hP_c1); (try clear hP_f1)
         (try clear hP_c2); (try clear hP_f2)
         (try clear hP_c3); (try clear hP_f3)
         (try clear hP_c4); (try clear hP_f4)
         (try clear hP_c5); (try clear hP_f5)
         (try clear hP_lt)
         have hP_lt := hP.lt; (try simp only [World.size_alloc] at hP_lt)
         have hP_c0 := hP.cell 0; have hP_f0 := hP.frozen 0
         have hP_c1 := hP.cell 1; have hP_f1 := hP.frozen 1
         have hP_c2 := hP.cell 2; have hP_f2 := hP.frozen 2
         have hP_c3 := hP.cell 3; have hP_f3 := hP.frozen 3
         have hP_c4 := hP.cell 4; have hP_f4 := hP.frozen 4
         have hP_c5 := hP.cell 5; have hP_f5 := hP.frozen 5
         simp only [List.getElem?_toArray, List.getElem?_cons_zero, List.getElem?_cons_succ] at hP_c0 hP_c1 hP_c2 hP_c3 hP_c4 hP_c5
         clear hb1)
      | (go_at_call 127
         refine (afterNone_any _ _ _ _).mono ?_
         rintro e w1 ⟨rfl, hb1⟩
         replace hBa := hBa.trans (hb1.mono hBa.size)
         replace hD := hD.below hb1 (by first | omega | exact hD.lt | (simp; done) | (simp; omega))
         (try clear hD_c0); (try clear hD_f0)
         (try clear hD_c1); (try clear hD_f1)
         (try clear hD_c2); (try clear hD_f2)
         (try clear hD_lt)
         have hD_lt := hD.lt; (try simp only [World.size_alloc] at hD_lt)
         have hD_c0 := hD.cell 0; have hD_f0 := hD.frozen 0
         have hD_c1 := hD.cell 1; have hD_f1 := hD.frozen 1
         have hD_c2 := hD.cell 2; have hD_f2 := hD.frozen 2
         simp only [List.getElem?_toArray, List.getElem?_cons_zero, List.getElem?_cons_succ] at hD_c0 hD_c1 hD_c2
         replace hX := hX.below hb1 (by first | omega | exact hX.lt | (simp; done) | (simp; omega))
         (try clear hX_c0); (try clear hX_f0)
         (try clear hX_c1); (try clear hX_f1)
         (try clear hX_c2); (try clear hX_f2)
         (try clear hX_lt)
         have hX_lt := hX.lt; (try simp only [World.size_alloc] at hX_lt)
         have hX_c0 := hX.cell 0; have hX_f0 := hX.frozen 0
         have hX_c1 := hX.cell 1; have hX_f1 := hX.frozen 1
         have hX_c2 := hX.cell 2; have hX_f2 := hX.frozen 2
         simp only [List.getElem?_toArray, List.getElem?_cons_zero, List.getElem?_cons_succ] at hX_c0 hX_c1 hX_c2
         replace hR := hR.below hb1 (by first | omega | exact hR.lt | (simp; done) | (simp; omega))
         (try clear hR_c0); (try clear hR_f0)
         (try clear hR_c1); (try clear hR_f1)
         (try clear hR_c2); (try clear hR_f2)
         (try clear hR_lt)
         have hR_lt := hR.lt; (try simp only [World.size_alloc] at hR_lt)
         have hR_c0 := hR.cell 0; have hR_f0 := hR.frozen 0
         have hR_c1 := hR.cell 1; have hR_f1 := hR.frozen 1
         have hR_c2 := hR.cell 2; have hR_f2 := hR.frozen 2
         simp only [List.getElem?_toArray, List.getElem?_cons_zero, List.getElem?_cons_succ] at hR_c0 hR_c1 hR_c2
         replace hP := hP.below hb1 (by first | omega | exact hP.lt | (simp; done) | (simp; omega))
         (try clear hP_c0); (try clear hP_f0)
         (try clear hP_c1); (try clear hP_f1)
         (try clear hP_c2); (try clear hP_f2)
         (try clear hP_c3); (try clear hP_f3)
         (try clear hP_c4); (try clear hP_f4)
         (try clear hP_c5); (try clear hP_f5)
         (try clear hP_lt)
         have hP_lt := hP.lt; (try simp only [World.size_alloc] at hP_lt)
         have hP_c0 := hP.cell 0; have hP_f0 := hP.frozen 0
         have hP_c1 := hP.cell 1; have hP_f1 := hP.frozen 1
         have hP_c2 := hP.cell 2; have hP_f2 := hP.frozen 2
         have hP_c3 := hP.cell 3; have hP_f3 := hP.frozen 3
         have hP_c4 := hP.cell 4; have hP_f4 := hP.frozen 4
         have hP_c5 := hP.cell 5; have hP_f5 := hP.frozen 5
         simp only [List.getElem?_toArray, List.getElem?_cons_zero, List.getElem?_cons_succ] at hP_c0 hP_c1 hP_c2 hP_c3 hP_c4 hP_c5
         clear hb1))
    have hRR_lt : w.heap.size + 1 + 1 < w1.heap.size + 1 := by omega
    have hPP_lt : w.heap.size + 1 + 1 + 1 < w1.heap.size + 1 := by omega
    refine ⟨rfl, ?_⟩
    apply Exists.intro
    apply And.intro
    · simp [results, Tryz.results77, go_sem, hR_c0, hR_c1, hR_c2, hP_c0, hP_c1, hP_c2, hP_c3, hP_c4, hP_c5, hR_lt, hP_lt, hRR_lt, hPP_lt]; exact rfl
    · exact ⟨rfl, (by repeat (first | with_reducible exact hBa | with_reducible exact hBa.size | with_reducible exact le2 w | with_reducible exact le3 w | with_reducible refine Below.setCell ?_ ?_ _ | with_reducible refine Below.alloc ?_ ?_ _ | with_reducible refine Below.drewN' ?_ _ | with_reducible refine Below.drew ?_ | with_reducible refine le_set ?_ | with_reducible refine le_all ?_))⟩
  | got p =>
    have e := inv_got ht
    unfold foundV Pk.v at HO
    rw [e] at hc1' hcl ⊢
    dsimp only at hc1' hcl ⊢
    clear ht hc0' HT e
    generalize s.xs.length = n at *
    generalize s.co = co at *
    generalize s.nx = nx at *
    generalize s.lo = lo at *
    generalize s.wt = wt at *
    have hD := (((Bk.new w 34 #[.int .i64 4, .int .i64 co, .slice A n c]).alloc (.cells #[.int .i64 nx, .int .i64 lo, .bool wt] 36)).alloc (.cells #[.int .i64 0, .int .i64 0, .bool false] 36)).alloc (.cells #[.int .i64 0, .int .i64 0, .int .i64 0, .int .i64 0, .bool false, .bool false] 81)
    have hX := ((bk_new1 w (.cells #[.int .i64 4, .int .i64 co, .slice A n c] 34) 36 #[.int .i64 nx, .int .i64 lo, .bool wt]).alloc (.cells #[.int .i64 0, .int .i64 0, .bool false] 36)).alloc (.cells #[.int .i64 0, .int .i64 0, .int .i64 0, .int .i64 0, .bool false, .bool false] 81)
    have hR := (bk_new1 (w.alloc (.cells #[.int .i64 4, .int .i64 co, .slice A n c] 34)) (.cells #[.int .i64 nx, .int .i64 lo, .bool wt] 36) 36 #[.int .i64 0, .int .i64 0, .bool false]).alloc (.cells #[.int .i64 0, .int .i64 0, .int .i64 0, .int .i64 0, .bool false, .bool false] 81)
    have hP := bk_new1 ((w.alloc (.cells #[.int .i64 4, .int .i64 co, .slice A n c] 34)).alloc (.cells #[.int .i64 nx, .int .i64 lo, .bool wt] 36)) (.cells #[.int .i64 0, .int .i64 0, .bool false] 36) 81 #[.int .i64 0, .int .i64 0, .int .i64 0, .int .i64 0, .bool false, .bool false]
    rw [size1] at hR
    rw [size1, size1] at hP
    have hBa : Below w.heap.size w ((((w.alloc (.cells #[.int .i64 4, .int .i64 co, .slice A n c] 34)).alloc (.cells #[.int .i64 nx, .int .i64 lo, .bool wt] 36)).alloc (.cells #[.int .i64 0, .int .i64 0, .bool false] 36)).alloc (.cells #[.int .i64 0, .int .i64 0, .int .i64 0, .int .i64 0, .bool false, .bool false] 81)) := (by repeat (first | exact Below.refl _ _ | assumption | refine Below.setCell ?_ (by first | omega | (simp; done) | (simp; omega)) _ | refine Below.alloc ?_ (by first | omega | (simp; done) | (simp; omega)) _ | refine Below.drew ?_ | refine Below.drewN' ?_ _ | refine Below.trans ?_ (Below.mono (by assumption) (by first | omega | (simp; done) | (simp; omega)))))
    (try clear hD_c0); (try clear hD_f0)
    (try clear hD_c1); (try clear hD_f1)
    (try clear hD_c2); (try clear hD_f2)
    (try clear hD_lt)
    have hD_lt := hD.lt; (try simp only [World.size_alloc] at hD_lt)
    have hD_c0 := hD.cell 0; have hD_f0 := hD.frozen 0
    have hD_c1 := hD.cell 1; have hD_f1 := hD.frozen 1
    have hD_c2 := hD.cell 2; have hD_f2 := hD.frozen 2
    simp only [List.getElem?_toArray, List.getElem?_cons_zero, List.getElem?_cons_succ] at hD_c0 hD_c1 hD_c2
    (try clear hX_c0); (try clear hX_f0)
    (try clear hX_c1); (try clear hX_f1)
    (try clear hX_c2); (try clear hX_f2)
    (try clear hX_lt)
    have hX_lt := hX.lt; (try simp only [World.size_alloc] at hX_lt)
    have hX_c0 := hX.cell 0; have hX_f0 := hX.frozen 0
    have hX_c1 := hX.cell 1; have hX_f1 := hX.frozen 1
    have hX_c2 := hX.cell 2; have hX_f2 := hX.frozen 2
    simp only [List.getElem?_toArray, List.getElem?_cons_zero, List.getElem?_cons_succ] at hX_c0 hX_c1 hX_c2
    (try clear hR_c0); (try clear hR_f0)
    (try clear hR_c1); (try clear hR_f1)
    (try clear hR_c2); (try clear hR_f2)
    (try clear hR_lt)
    have hR_lt := hR.lt; (try simp only [World.size_alloc] at hR_lt)
    have hR_c0 := hR.cell 0; have hR_f0 := hR.frozen 0
    have hR_c1 := hR.cell 1; have hR_f1 := hR.frozen 1
    have hR_c2 := hR.cell 2; have hR_f2 := hR.frozen 2
    simp only [List.getElem?_toArray, List.getElem?_cons_zero, List.getElem?_cons_succ] at hR_c0 hR_c1 hR_c2
    (try clear hP_c0); (try clear hP_f0)
    (try clear hP_c1); (try clear hP_f1)
    (try clear hP_c2); (try clear hP_f2)
    (try clear hP_c3); (try clear hP_f3)
    (try clear hP_c4); (try clear hP_f4)
    (try clear hP_c5); (try clear hP_f5)
    (try clear hP_lt)
    have hP_lt := hP.lt; (try simp only [World.size_alloc] at hP_lt)
    have hP_c0 := hP.cell 0; have hP_f0 := hP.frozen 0
    have hP_c1 := hP.cell 1; have hP_f1 := hP.frozen 1
    have hP_c2 := hP.cell 2; have hP_f2 := hP.frozen 2
    have hP_c3 := hP.cell 3; have hP_f3 := hP.frozen 3
    have hP_c4 := hP.cell 4; have hP_f4 := hP.frozen 4
    have hP_c5 := hP.cell 5; have hP_f5 := hP.frozen 5
    simp only [List.getElem?_toArray, List.getElem?_cons_zero, List.getElem?_cons_succ] at hP_c0 hP_c1 hP_c2 hP_c3 hP_c4 hP_c5
    go_enter Tryz.func77, Tryz.ntmps77
    go_wp2_with (first
      | (go_at_call 89
         refine (HV.out _ hBa).mono ?_
         rintro e w1 ⟨rfl, hb1⟩
         replace hBa := hBa.trans (hb1.mono hBa.size)
         replace hD := hD.below hb1 (by first | omega | exact hD.lt | (simp; done) | (simp; omega))
         (try clear hD_c0); (try clear hD_f0)
         (try clear hD_c1); (try clear hD_f1)
         (try clear hD_c2); (try clear hD_f2)
         (try clear hD_lt)
         have hD_lt := hD.lt; (try simp only [World.size_alloc] at hD_lt)
         have hD_c0 := hD.cell 0; have hD_f0 := hD.frozen 0
         have hD_c1 := hD.cell 1; have hD_f1 := hD.frozen 1
         have hD_c2 := hD.cell 2; have hD_f2 := hD.frozen 2
         simp only [List.getElem?_toArray, List.getElem?_cons_zero, List.getElem?_cons_succ] at hD_c0 hD_c1 hD_c2
         replace hX := hX.below hb1 (by first | omega | exact hX.lt | (simp; done) | (simp; omega))
         (try clear hX_c0); (try clear hX_f0)
         (try clear hX_c1); (try clear hX_f1)
         (try clear hX_c2); (try clear hX_f2)
         (try clear hX_lt)
         have hX_lt := hX.lt; (try simp only [World.size_alloc] at hX_lt)
         have hX_c0 := hX.cell 0; have hX_f0 := hX.frozen 0
         have hX_c1 := hX.cell 1; have hX_f1 := hX.frozen 1
         have hX_c2 := hX.cell 2; have hX_f2 := hX.frozen 2
         simp only [List.getElem?_toArray, List.getElem?_cons_zero, List.getElem?_cons_succ] at hX_c0 hX_c1 hX_c2
         replace hR := hR.below hb1 (by first | omega | exact hR.lt | (simp; done) | (simp; omega))
         (try clear hR_c0); (try clear hR_f0)
         (try clear hR_c1); (try clear hR_f1)
         (try clear hR_c2); (try clear hR_f2)
         (try clear hR_lt)
         have hR_lt := hR.lt; (try simp only [World.size_alloc] at hR_lt)
         have hR_c0 := hR.cell 0; have hR_f0 := hR.frozen 0
         have hR_c1 := hR.cell 1; have hR_f1 := hR.frozen 1
         have hR_c2 := hR.cell 2; have hR_f2 := hR.frozen 2
         simp only [List.getElem?_toArray, List.getElem?_cons_zero, List.getElem?_cons_succ] at hR_c0 hR_c1 hR_c2
         replace hP := hP.below hb1 (by first | omega | exact hP.lt | (simp; done) | (simp; omega))
         (try clear hP_c0); (try clear hP_f0)
         (try clear hP_c1); (try clear hP_f1)
         (try clear hP_c2); (try clear hP_f2)
         (try clear hP_c3); (try clear hP_f3)
         (try clear hP_c4); (try clear hP_f4)
         (try clear hP_c5); (try clear hP_f5)
         (try clear hP_lt)
         have hP_lt := hP.lt; (try simp only [World.size_alloc] at hP_lt)
         have hP_c0 := hP.cell 0; have hP_f0 := hP.frozen 0
         have hP_c1 := hP.cell 1; have hP_f1 := hP.frozen 1
         have hP_c2 := hP.cell 2; have hP_f2 := hP.frozen 2
         have hP_c3 := hP.cell 3; have hP_f3 := hP.frozen 3
         have hP_c4 := hP.cell 4; have hP_f4 := hP.frozen 4
         have hP_c5 := hP.cell 5; have hP_f5 := hP.frozen 5
         simp only [List.getElem?_toArray, List.getElem?_cons_zero, List.getElem?_cons_succ] at hP_c0 hP_c1 hP_c2 hP_c3 hP_c4 hP_c5
         clear hb1)
      | (go_at_call 90
         refine (HO.out _ hBa).mono ?_
         rintro e w1 ⟨rfl, hb1⟩
         replace hBa := hBa.trans (hb1.mono hBa.size)
         replace hD := hD.below hb1 (by first | omega | exact hD.lt | (simp; done) | (simp; omega))
         (try clear hD_c0); (try clear hD_f0)
         (try clear hD_c1); (try clear hD_f1)
         (try clear hD_c2); (try clear hD_f2)
         (try clear hD_lt)
         have hD_lt := hD.lt; (try simp only [World.size_alloc] at hD_lt)
         have hD_c0 := hD.cell 0; have hD_f0 := hD.frozen 0
         have hD_c1 := hD.cell 1; have hD_f1 := hD.frozen 1
         have hD_c2 := hD.cell 2; have hD_f2 := hD.frozen 2
         simp only [List.getElem?_toArray, List.getElem?_cons_zero, List.getElem?_cons_succ] at hD_c0 hD_c1 hD_c2
         replace hX := hX.below hb1 (by first | omega | exact hX.lt | (simp; done) | (simp; omega))
         (try clear hX_c0); (try clear hX_f0)
         (try clear hX_c1); (try clear hX_f1)
         (try clear hX_c2); (try clear hX_f2)
         (try clear hX_lt)
         have hX_lt := hX.lt; (try simp only [World.size_alloc] at hX_lt)
         have hX_c0 := hX.cell 0; have hX_f0 := hX.frozen 0
         have hX_c1 := hX.cell 1; have hX_f1 := hX.frozen 1
         have hX_c2 := hX.cell 2; have hX_f2 := hX.frozen 2
         simp only [List.getElem?_toArray, List.getElem?_cons_zero, List.getElem?_cons_succ] at hX_c0 hX_c1 hX_c2
         replace hR := hR.below hb1 (by first | omega | exact hR.lt | (simp; done) | (simp; omega))
         (try clear hR_c0); (try clear hR_f0)
         (try clear hR_c1); (try clear hR_f1)
         (try clear hR_c2); (try clear hR_f2)
         (try clear hR_lt)
         have hR_lt := hR.lt; (try simp only [World.size_alloc] at hR_lt)
         have hR_c0 := hR.cell 0; have hR_f0 := hR.frozen 0
         have hR_c1 := hR.cell 1; have hR_f1 := hR.frozen 1
         have hR_c2 := hR.cell 2; have hR_f2 := hR.frozen 2
         simp only [List.getElem?_toArray, List.getElem?_cons_zero, List.getElem?_cons_succ] at hR_c0 hR_c1 hR_c2
         replace hP := hP.below hb1 (by first | omega | exact hP.lt | (simp; done) | (simp; omega))
         (try clear hP_c0); (try clear hP_f0)
         (try clear hP_c1); (try clear hP_f1)
         (try clear hP_c2); (try clear hP_f2)
         (try clear hP_c3); (try clear hP_f3)
         (try clear hP_c4); (try clear hP_f4)
         (try clear hP_c5); (try clear hP_f5)
         (try clear hP_lt)
         have hP_lt := hP.lt; (try simp only [World.size_alloc] at hP_lt)
         have hP_c0 := hP.cell 0; have hP_f0 := hP.frozen 0
         have hP_c1 := hP.cell 1; have hP_f1 := hP.frozen 1
         have hP_c2 := hP.cell 2; have hP_f2 := hP.frozen 2
         have hP_c3 := hP.cell 3; have hP_f3 := hP.frozen 3
         have hP_c4 := hP.cell 4; have hP_f4 := hP.frozen 4
         have hP_c5 := hP.cell 5; have hP_f5 := hP.frozen 5
         simp only [List.getElem?_toArray, List.getElem?_cons_zero, List.getElem?_cons_succ] at hP_c0 hP_c1 hP_c2 hP_c3 hP_c4 hP_c5
         clear hb1)
      | (go_at_call 125
         refine (afterGot_any p _ _ _ _ (by omega) (by omega)).mono ?_
         rintro e w1 ⟨rfl, hb1⟩
         replace hBa := hBa.trans (hb1.mono hBa.size)
         replace hD := hD.below hb1 (by first | omega | exact hD.lt | (simp; done) | (simp; omega))
         (try clear hD_c0); (try clear hD_f0)
         (try clear hD_c1); (try clear hD_f1)
         (try clear hD_c2); (try clear hD_f2)
         (try clear hD_lt)
         have hD_lt := hD.lt; (try simp only [World.size_alloc] at hD_lt)
         have hD_c0 := hD.cell 0; have hD_f0 := hD.frozen 0
         have hD_c1 := hD.cell 1; have hD_f1 := hD.frozen 1
         have hD_c2 := hD.cell 2; have hD_f2 := hD.frozen 2
         simp only [List.getElem?_toArray, List.getElem?_cons_zero, List.getElem?_cons_succ] at hD_c0 hD_c1 hD_c2
         replace hX := hX.below hb1 (by first | omega | exact hX.lt | (simp; done) | (simp; omega))
         (try clear hX_c0); (try clear hX_f0)
         (try clear hX_c1); (try clear hX_f1)
         (try clear hX_c2); (try clear hX_f2)
         (try clear hX_lt)
         have hX_lt := hX.lt; (try simp only [World.size_alloc] at hX_lt)
         have hX_c0 := hX.cell 0; have hX_f0 := hX.frozen 0
         have hX_c1 := hX.cell 1; have hX_f1 := hX.frozen 1
         have hX_c2 := hX.cell 2; have hX_f2 := hX.frozen 2
         simp only [List.getElem?_toArray, List.getElem?_cons_zero, List.getElem?_cons_succ] at hX_c0 hX_c1 hX_c2
         replace hR := hR.below hb1 (by first | omega | exact hR.lt | (simp; done) | (simp; omega))
         (try clear hR_c0); (try clear hR_f0)
         (try clear hR_c1); (try clear hR_f1)
         (try clear hR_c2); (try clear hR_f2)
         (try clear hR_lt)
         have hR_lt := hR.lt; (try simp only [World.size_alloc] at hR_lt)
         have hR_c0 := hR.cell 0; have hR_f0 := hR.frozen 0
         have hR_c1 := hR.cell 1; have hR_f1 := hR.frozen 1
         have hR_c2 := hR.cell 2; have hR_f2 := hR.frozen 2
         simp only [List.getElem?_toArray, List.getElem?_cons_zero, List.getElem?_cons_succ] at hR_c0 hR_c1 hR_c2
         replace hP := hP.below hb1 (by first | omega | exact hP.lt | (simp; done) | (simp; omega))
         (try clear hP_c0); (try clear hP_f0)
         (try clear hP_c1); (try clear hP_f1)
         (try clear hP_c2); (try clear hP_f2)
         (try clear hP_c3); (try clear hP_f3)
         (try clear hP_c4); (try clear hP_f4)
         (try clear hP_c5); (try clear hP_f5)
         (try clear hP_lt)
         have hP_lt := hP.lt; (try simp only [World.size_alloc] at hP_lt)
         have hP_c0 := hP.cell 0; have hP_f0 := hP.frozen 0
         have hP_c1 := hP.cell 1; have hP_f1 := hP.frozen 1
         have hP_c2 := hP.cell 2; have hP_f2 := hP.frozen 2
         have hP_c3 := hP.cell 3; have hP_f3 := hP.frozen 3
         have hP_c4 := hP.cell 4; have hP_f4 := hP.frozen 4
         have hP_c5 := hP.cell 5; have hP_f5 := hP.frozen 5
         simp only [List.getElem?_toArray, List.getElem?_cons_zero, List.getElem?_cons_succ] at hP_c0 hP_c1 hP_c2 hP_c3 hP_c4 hP_c5
         clear hb1))
    go_region
    all_goals
      go_wp2
      have hRR_lt : w.heap.size + 1 + 1 < w1.heap.size + 1 := by omega
      have hPP_lt : w.heap.size + 1 + 1 + 1 < w1.heap.size + 1 := by omega
      refine ⟨rfl, ?_⟩
      apply Exists.intro
      apply And.intro
      · simp [results, Tryz.results77, go_sem, hR_c0, hR_c1, hR_c2, hP_c0, hP_c1, hP_c2, hP_c3, hP_c4, hP_c5, hR_lt, hP_lt, hRR_lt, hPP_lt]; exact rfl
      · exact ⟨rfl, (by repeat (first | with_reducible exact hBa | with_reducible exact hBa.size | with_reducible exact le2 w | with_reducible exact le3 w | with_reducible refine Below.setCell ?_ ?_ _ | with_reducible refine Below.alloc ?_ ?_ _ | with_reducible refine Below.drewN' ?_ _ | with_reducible refine Below.drew ?_ | with_reducible refine le_set ?_ | with_reducible refine le_all ?_))⟩
  | lost =>
    have HLO := Lib.hid (inv_lost ht)
    unfold foundV at HO
    rw [ht] at HO
    clear ht
    generalize s'.nx = m at *
    generalize s'.wt = bb at *
    generalize s'.lo = lq at *
    generalize s.xs.length = n at *
    generalize s.co = co at *
    generalize s.nx = nx at *
    generalize s.lo = lo at *
    generalize s.wt = wt at *
    have hD := (((Bk.new w 34 #[.int .i64 4, .int .i64 co, .slice A n c]).alloc (.cells #[.int .i64 nx, .int .i64 lo, .bool wt] 36)).alloc (.cells #[.int .i64 0, .int .i64 0, .bool false] 36)).alloc (.cells #[.int .i64 0, .int .i64 0, .int .i64 0, .int .i64 0, .bool false, .bool false] 81)
    have hX := ((bk_new1 w (.cells #[.int .i64 4, .int .i64 co, .slice A n c] 34) 36 #[.int .i64 nx, .int .i64 lo, .bool wt]).alloc (.cells #[.int .i64 0, .int .i64 0, .bool false] 36)).alloc (.cells #[.int .i64 0, .int .i64 0, .int .i64 0, .int .i64 0, .bool false, .bool false] 81)
    have hR := (bk_new1 (w.alloc (.cells #[.int .i64 4, .int .i64 co, .slice A n c] 34)) (.cells #[.int .i64 nx, .int .i64 lo, .bool wt] 36) 36 #[.int .i64 0, .int .i64 0, .bool false]).alloc (.cells #[.int .i64 0, .int .i64 0, .int .i64 0, .int .i64 0, .bool false, .bool false] 81)
    have hP := bk_new1 ((w.alloc (.cells #[.int .i64 4, .int .i64 co, .slice A n c] 34)).alloc (.cells #[.int .i64 nx, .int .i64 lo, .bool wt] 36)) (.cells #[.int .i64 0, .int .i64 0, .bool false] 36) 81 #[.int .i64 0, .int .i64 0, .int .i64 0, .int .i64 0, .bool false, .bool false]
    rw [size1] at hR
    rw [size1, size1] at hP
    have hBa : Below w.heap.size w ((((w.alloc (.cells #[.int .i64 4, .int .i64 co, .slice A n c] 34)).alloc (.cells #[.int .i64 nx, .int .i64 lo, .bool wt] 36)).alloc (.cells #[.int .i64 0, .int .i64 0, .bool false] 36)).alloc (.cells #[.int .i64 0, .int .i64 0, .int .i64 0, .int .i64 0, .bool false, .bool false] 81)) := (by repeat (first | exact Below.refl _ _ | assumption | refine Below.setCell ?_ (by first | omega | (simp; done) | (simp; omega)) _ | refine Below.alloc ?_ (by first | omega | (simp; done) | (simp; omega)) _ | refine Below.drew ?_ | refine Below.drewN' ?_ _ | refine Below.trans ?_ (Below.mono (by assumption) (by first | omega | (simp; done) | (simp; omega)))))
    (try clear hD_c0); (try clear hD_f0)
    (try clear hD_c1); (try clear hD_f1)
    (try clear hD_c2); (try clear hD_f2)
    (try clear hD_lt)
    have hD_lt := hD.lt; (try simp only [World.size_alloc] at hD_lt)
    have hD_c0 := hD.cell 0; have hD_f0 := hD.frozen 0
    have hD_c1 := hD.cell 1; have hD_f1 := hD.frozen 1
    have hD_c2 := hD.cell 2; have hD_f2 := hD.frozen 2
    simp only [List.getElem?_toArray, List.getElem?_cons_zero, List.getElem?_cons_succ] at hD_c0 hD_c1 hD_c2
    (try clear hX_c0); (try clear hX_f0)
    (try clear hX_c1); (try clear hX_f1)
    (try clear hX_c2); (try clear hX_f2)
    (try clear hX_lt)
    have hX_lt := hX.lt; (try simp only [World.size_alloc] at hX_lt)
    have hX_c0 := hX.cell 0; have hX_f0 := hX.frozen 0
    have hX_c1 := hX.cell 1; have hX_f1 := hX.frozen 1
    have hX_c2 := hX.cell 2; have hX_f2 := hX.frozen 2
    simp only [List.getElem?_toArray, List.getElem?_cons_zero, List.getElem?_cons_succ] at hX_c0 hX_c1 hX_c2
    (try clear hR_c0); (try clear hR_f0)
    (try clear hR_c1); (try clear hR_f1)
    (try clear hR_c2); (try clear hR_f2)
    (try clear hR_lt)
    have hR_lt := hR.lt; (try simp only [World.size_alloc] at hR_lt)
    have hR_c0 := hR.cell 0; have hR_f0 := hR.frozen 0
    have hR_c1 := hR.cell 1; have hR_f1 := hR.frozen 1
    have hR_c2 := hR.cell 2; have hR_f2 := hR.frozen 2
    simp only [List.getElem?_toArray, List.getElem?_cons_zero, List.getElem?_cons_succ] at hR_c0 hR_c1 hR_c2
    (try clear hP_c0); (try clear hP_f0)
    (try clear hP_c1); (try clear hP_f1)
    (try clear hP_c2); (try clear hP_f2)
    (try clear hP_c3); (try clear hP_f3)
    (try clear hP_c4); (try clear hP_f4)
    (try clear hP_c5); (try clear hP_f5)
    (try clear hP_lt)
    have hP_lt := hP.lt; (try simp only [World.size_alloc] at hP_lt)
    have hP_c0 := hP.cell 0; have hP_f0 := hP.frozen 0
    have hP_c1 := hP.cell 1; have hP_f1 := hP.frozen 1
    have hP_c2 := hP.cell 2; have hP_f2 := hP.frozen 2
    have hP_c3 := hP.cell 3; have hP_f3 := hP.frozen 3
    have hP_c4 := hP.cell 4; have hP_f4 := hP.frozen 4
    have hP_c5 := hP.cell 5; have hP_f5 := hP.frozen 5
    simp only [List.getElem?_toArray, List.getElem?_cons_zero, List.getElem?_cons_succ] at hP_c0 hP_c1 hP_c2 hP_c3 hP_c4 hP_c5
    go_enter Tryz.func77, Tryz.ntmps77
    go_wp2_with (first
      | (go_at_call 89
         refine (HV.out _ hBa).mono ?_
         rintro e w1 ⟨rfl, hb1⟩
         replace hBa := hBa.trans (hb1.mono hBa.size)
         replace hD := hD.below hb1 (by first | omega | exact hD.lt | (simp; done) | (simp; omega))
         (try clear hD_c0); (try clear hD_f0)
         (try clear hD_c1); (try clear hD_f1)
         (try clear hD_c2); (try clear hD_f2)
         (try clear hD_lt)
         have hD_lt := hD.lt; (try simp only [World.size_alloc] at hD_lt)
         have hD_c0 := hD.cell 0; have hD_f0 := hD.frozen 0
         have hD_c1 := hD.cell 1; have hD_f1 := hD.frozen 1
         have hD_c2 := hD.cell 2; have hD_f2 := hD.frozen 2
         simp only [List.getElem?_toArray, List.getElem?_cons_zero, List.getElem?_cons_succ] at hD_c0 hD_c1 hD_c2
         replace hX := hX.below hb1 (by first | omega | exact hX.lt | (simp; done) | (simp; omega))
         (try clear hX_c0); (try clear hX_f0)
         (try clear hX_c1); (try clear hX_f1)
         (try clear hX_c2); (try clear hX_f2)
         (try clear hX_lt)
         have hX_lt := hX.lt; (try simp only [World.size_alloc] at hX_lt)
         have hX_c0 := hX.cell 0; have hX_f0 := hX.frozen 0
         have hX_c1 := hX.cell 1; have hX_f1 := hX.frozen 1
         have hX_c2 := hX.cell 2; have hX_f2 := hX.frozen 2
         simp only [List.getElem?_toArray, List.getElem?_cons_zero, List.getElem?_cons_succ] at hX_c0 hX_c1 hX_c2
         replace hR := hR.below hb1 (by first | omega | exact hR.lt | (simp; done) | (simp; omega))
         (try clear hR_c0); (try clear hR_f0)
         (try clear hR_c1); (try clear hR_f1)
         (try clear hR_c2); (try clear hR_f2)
         (try clear hR_lt)
         have hR_lt := hR.lt; (try simp only [World.size_alloc] at hR_lt)
         have hR_c0 := hR.cell 0; have hR_f0 := hR.frozen 0
         have hR_c1 := hR.cell 1; have hR_f1 := hR.frozen 1
         have hR_c2 := hR.cell 2; have hR_f2 := hR.frozen 2
         simp only [List.getElem?_toArray, List.getElem?_cons_zero, List.getElem?_cons_succ] at hR_c0 hR_c1 hR_c2
         replace hP := hP.below hb1 (by first | omega | exact hP.lt | (simp; done) | (simp; omega))
         (try clear hP_c0); (try clear hP_f0)
         (try clear hP_c1); (try clear hP_f1)
         (try clear hP_c2); (try clear hP_f2)
         (try clear hP_c3); (try clear hP_f3)
         (try clear hP_c4); (try clear hP_f4)
         (try clear hP_c5); (try clear hP_f5)
         (try clear hP_lt)
         have hP_lt := hP.lt; (try simp only [World.size_alloc] at hP_lt)
         have hP_c0 := hP.cell 0; have hP_f0 := hP.frozen 0
         have hP_c1 := hP.cell 1; have hP_f1 := hP.frozen 1
         have hP_c2 := hP.cell 2; have hP_f2 := hP.frozen 2
         have hP_c3 := hP.cell 3; have hP_f3 := hP.frozen 3
         have hP_c4 := hP.cell 4; have hP_f4 := hP.frozen 4
         have hP_c5 := hP.cell 5; have hP_f5 := hP.frozen 5
         simp only [List.getElem?_toArray, List.getElem?_cons_zero, List.getElem?_cons_succ] at hP_c0 hP_c1 hP_c2 hP_c3 hP_c4 hP_c5
         clear hb1)
      | (go_at_call 90
         refine (HO.out _ hBa).mono ?_
         rintro e w1 ⟨rfl, hb1⟩
         replace hBa := hBa.trans (hb1.mono hBa.size)
         replace hD := hD.below hb1 (by first | omega | exact hD.lt | (simp; done) | (simp; omega))
         (try clear hD_c0); (try clear hD_f0)
         (try clear hD_c1); (try clear hD_f1)
         (try clear hD_c2); (try clear hD_f2)
         (try clear hD_lt)
         have hD_lt := hD.lt; (try simp only [World.size_alloc] at hD_lt)
         have hD_c0 := hD.cell 0; have hD_f0 := hD.frozen 0
         have hD_c1 := hD.cell 1; have hD_f1 := hD.frozen 1
         have hD_c2 := hD.cell 2; have hD_f2 := hD.frozen 2
         simp only [List.getElem?_toArray, List.getElem?_cons_zero, List.getElem?_cons_succ] at hD_c0 hD_c1 hD_c2
         replace hX := hX.below hb1 (by first | omega | exact hX.lt | (simp; done) | (simp; omega))
         (try clear hX_c0); (try clear hX_f0)
         (try clear hX_c1); (try clear hX_f1)
         (try clear hX_c2); (try clear hX_f2)
         (try clear hX_lt)
         have hX_lt := hX.lt; (try simp only [World.size_alloc] at hX_lt)
         have hX_c0 := hX.cell 0; have hX_f0 := hX.frozen 0
         have hX_c1 := hX.cell 1; have hX_f1 := hX.frozen 1
         have hX_c2 := hX.cell 2; have hX_f2 := hX.frozen 2
         simp only [List.getElem?_toArray, List.getElem?_cons_zero, List.getElem?_cons_succ] at hX_c0 hX_c1 hX_c2
         replace hR := hR.below hb1 (by first | omega | exact hR.lt | (simp; done) | (simp; omega))
         (try clear hR_c0); (try clear hR_f0)
         (try clear hR_c1); (try clear hR_f1)
         (try clear hR_c2); (try clear hR_f2)
         (try clear hR_lt)
         have hR_lt := hR.lt; (try simp only [World.size_alloc] at hR_lt)
         have hR_c0 := hR.cell 0; have hR_f0 := hR.frozen 0
         have hR_c1 := hR.cell 1; have hR_f1 := hR.frozen 1
         have hR_c2 := hR.cell 2; have hR_f2 := hR.frozen 2
         simp only [List.getElem?_toArray, List.getElem?_cons_zero, List.getElem?_cons_succ] at hR_c0 hR_c1 hR_c2
         replace hP := hP.below hb1 (by first | omega | exact hP.lt | (simp; done) | (simp; omega))
         (try clear hP_c0); (try clear hP_f0)
         (try clear hP_c1); (try clear hP_f1)
         (try clear hP_c2); (try clear hP_f2)
         (try clear hP_c3); (try clear hP_f3)
         (try clear hP_c4); (try clear hP_f4)
         (try clear hP_c5); (try clear hP_f5)
         (try clear hP_lt)
         have hP_lt := hP.lt; (try simp only [World.size_alloc] at hP_lt)
         have hP_c0 := hP.cell 0; have hP_f0 := hP.frozen 0
         have hP_c1 := hP.cell 1; have hP_f1 := hP.frozen 1
         have hP_c2 := hP.cell 2; have hP_f2 := hP.frozen 2
         have hP_c3 := hP.cell 3; have hP_f3 := hP.frozen 3
         have hP_c4 := hP.cell 4; have hP_f4 := hP.frozen 4
         have hP_c5 := hP.cell 5; have hP_f5 := hP.frozen 5
         simp only [List.getElem?_toArray, List.getElem?_cons_zero, List.getElem?_cons_succ] at hP_c0 hP_c1 hP_c2 hP_c3 hP_c4 hP_c5
         clear hb1)
      | (go_at_call 126
         refine (afterLost_any _ _ _ _ _ _ (by omega) (by omega) (by omega) (by omega) (by omega) (by omega)).mono ?_
         rintro e w1 ⟨rfl, hb1⟩
         replace hBa := hBa.trans (hb1.mono hBa.size)
         replace hD := hD.below hb1 (by first | omega | exact hD.lt | (simp; done) | (simp; omega))
         (try clear hD_c0); (try clear hD_f0)
         (try clear hD_c1); (try clear hD_f1)
         (try clear hD_c2); (try clear hD_f2)
         (try clear hD_lt)
         have hD_lt := hD.lt; (try simp only [World.size_alloc] at hD_lt)
         have hD_c0 := hD.cell 0; have hD_f0 := hD.frozen 0
         have hD_c1 := hD.cell 1; have hD_f1 := hD.frozen 1
         have hD_c2 := hD.cell 2; have hD_f2 := hD.frozen 2
         simp only [List.getElem?_toArray, List.getElem?_cons_zero, List.getElem?_cons_succ] at hD_c0 hD_c1 hD_c2
         replace hX := hX.below hb1 (by first | omega | exact hX.lt | (simp; done) | (simp; omega))
         (try clear hX_c0); (try clear hX_f0)
         (try clear hX_c1); (try clear hX_f1)
         (try clear hX_c2); (try clear hX_f2)
         (try clear hX_lt)
         have hX_lt := hX.lt; (try simp only [World.size_alloc] at hX_lt)
         have hX_c0 := hX.cell 0; have hX_f0 := hX.frozen 0
         have hX_c1 := hX.cell 1; have hX_f1 := hX.frozen 1
         have hX_c2 := hX.cell 2; have hX_f2 := hX.frozen 2
         simp only [List.getElem?_toArray, List.getElem?_cons_zero, List.getElem?_cons_succ] at hX_c0 hX_c1 hX_c2
         replace hR := hR.below hb1 (by first | omega | exact hR.lt | (simp; done) | (simp; omega))
         (try clear hR_c0); (try clear hR_f0)
         (try clear hR_c1); (try clear hR_f1)
         (try clear hR_c2); (try clear hR_f2)
         (try clear hR_lt)
         have hR_lt := hR.lt; (try simp only [World.size_alloc] at hR_lt)
         have hR_c0 := hR.cell 0; have hR_f0 := hR.frozen 0
         have hR_c1 := hR.cell 1; have hR_f1 := hR.frozen 1
         have hR_c2 := hR.cell 2; have hR_f2 := hR.frozen 2
         simp only [List.getElem?_toArray, List.getElem?_cons_zero, List.getElem?_cons_succ] at hR_c0 hR_c1 hR_c2
         replace hP := hP.below hb1 (by first | omega | exact hP.lt | (simp; done) | (simp; omega))
         (try clear hP_c0); (try clear hP_f0)
         (try clear hP_c1); (try clear hP_f1)
         (try clear hP_c2); (try clear hP_f2)
         (try clear hP_c3); (try clear hP_f3)
         (try clear hP_c4); (try clear hP_f4)
         (try clear hP_c5); (try clear hP_f5)
         (try clear hP_lt)
         have hP_lt := hP.lt; (try simp only [World.size_alloc] at hP_lt)
         have hP_c0 := hP.cell 0; have hP_f0 := hP.frozen 0
         have hP_c1 := hP.cell 1; have hP_f1 := hP.frozen 1
         have hP_c2 := hP.cell 2; have hP_f2 := hP.frozen 2
         have hP_c3 := hP.cell 3; have hP_f3 := hP.frozen 3
         have hP_c4 := hP.cell 4; have hP_f4 := hP.frozen 4
         have hP_c5 := hP.cell 5; have hP_f5 := hP.frozen 5
         simp only [List.getElem?_toArray, List.getElem?_cons_zero, List.getElem?_cons_succ] at hP_c0 hP_c1 hP_c2 hP_c3 hP_c4 hP_c5
         clear hb1))
    have hRR_lt : w.heap.size + 1 + 1 < w1.heap.size + 1 := by omega
    have hPP_lt : w.heap.size + 1 + 1 + 1 < w1.heap.size + 1 := by omega
    refine ⟨rfl, ?_⟩
    apply Exists.intro
    apply And.intro
    · simp [results, Tryz.results77, go_sem, hR_c0, hR_c1, hR_c2, hP_c0, hP_c1, hP_c2, hP_c3, hP_c4, hP_c5, hR_lt, hP_lt, hRR_lt, hPP_lt]; exact rfl
    · exact ⟨by rw [HLO.out]; rfl, (by repeat (first | with_reducible exact hBa | with_reducible exact hBa.size | with_reducible exact le2 w | with_reducible exact le3 w | with_reducible refine Below.setCell ?_ ?_ _ | with_reducible refine Below.alloc ?_ ?_ _ | with_reducible refine Below.drewN' ?_ _ | with_reducible refine Below.drew ?_ | with_reducible refine le_set ?_ | with_reducible refine le_all ?_))⟩

end Go.Proofs.YthbkmnladaneaaaGreatDoor
