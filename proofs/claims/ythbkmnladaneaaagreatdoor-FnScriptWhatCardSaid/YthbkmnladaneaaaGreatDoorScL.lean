/-
  Scripts: readers of a valid state, in both programs.
  Conditions: the state is valid (scOk), its packets lie at the world.
-/
import Derived.Test.YthbkmnladaneaaaGreatDoorScK
namespace Go.Proofs.YthbkmnladaneaaaGreatDoor
open Go.RowKit
set_option linter.unusedVariables false
set_option linter.unusedSimpArgs false
set_option maxRecDepth 100000

def rgV (s : Sc) (A : Option Addr) (c : Nat) : Value := .agg #[.int .i64 4, .int .i64 s.co, .slice A s.xs.length c]
def rdV (s : Sc) : Value := .agg #[.int .i64 s.nx, .int .i64 s.lo, .bool s.wt]
theorem scOk_len {s : Sc} (h : scOk s) : s.xs.length ≤ 4 ∧ (s.xs.length : Int) ≤ s.co ∧ 0 ≤ s.co ∧ s.co ≤ 999999 := by
  obtain ⟨⟨h1, h2, h3, h4, h5, h6⟩, h7⟩ := h
  omega
theorem size1 (w : World) (o : Obj) : (w.alloc o).heap.size = w.heap.size + 1 := by simp [World.size_alloc]
theorem bk_new1 (w : World) (o : Obj) (t : TypeId) (cs : Array Value) : Bk ((w.alloc o).alloc (.cells cs t)) (w.heap.size + 1) t cs := by
  have := Bk.new (w.alloc o) t cs
  rwa [size1] at this

theorem srvOk (s : Sc) (A : Option Addr) (c : Nat) (w : World) (h : Pks w w.heap.size A s.xs.length s.xs) (hok : scOk s) (w' : World) (hw : Below w.heap.size w w') :
    Calls Tryz.prog 50 #[rgV s A c] w' fun e w2 => e = .returned (.bool true) ∧ Below w'.heap.size w' w2 := by
  have := srv_any 4 s.co A s.xs.length c s.xs w' ((h.below hw).more hw.size) (by have := scOk_len hok; omega)
  rw [rgB_true.2 hok.1] at this
  exact this
set_option maxHeartbeats 4000000 in
theorem sold_any (s : Sc) (A : Option Addr) (c : Nat) (w : World) (h : Pks w w.heap.size A s.xs.length s.xs) (hok : scOk s) :
    Calls Tryz.prog 39 #[rgV s A c] w fun e w' => e = .returned (.int .i64 (oldI s)) ∧ Below w.heap.size w w' := by
  have HV := Lib.hid (srvOk s A c w h hok)
  obtain ⟨hl4, hlc, hc0, hc1⟩ := scOk_len hok
  clear h hok
  unfold rgV oldI at *
  generalize s.xs.length = n at *
  generalize s.co = co at *
  have hD := Bk.new w 34 #[.int .i64 4, .int .i64 co, .slice A n c]
  have hBa : Below w.heap.size w (w.alloc (.cells #[.int .i64 4, .int .i64 co, .slice A n c] 34)) := (Below.refl _ _).alloc (Nat.le_refl _) _
  (try clear hD_c0); (try clear hD_f0)
  (try clear hD_c1); (try clear hD_f1)
  (try clear hD_c2); (try clear hD_f2)
  (try clear hD_lt)
  have hD_lt := hD.lt; (try simp only [World.size_alloc] at hD_lt)
  have hD_c0 := hD.cell 0; have hD_f0 := hD.frozen 0
  have hD_c1 := hD.cell 1; have hD_f1 := hD.frozen 1
  have hD_c2 := hD.cell 2; have hD_f2 := hD.frozen 2
  simp only [List.getElem?_toArray, List.getElem?_cons_zero, List.getElem?_cons_succ] at hD_c0 hD_c1 hD_c2
  go_enter Tryz.func39, Tryz.ntmps39
  go_wp2_with (first
    | (go_at_call 50
       refine (HV.out _ hBa).mono ?_
       rintro e w1 ⟨rfl, hb1⟩
       replace hBa := hBa.trans (hb1.mono hBa.size)
       replace hD := hD.below hb1 (by first | omega | exact hD.lt | (simp; done) | (simp; omega))
       (try clear hD_c0); (try clear hD_f0)
       (try clear hD_c1); (try clear hD_f1)
       (try clear hD_c2); (try clear hD_f2)
       (try clear hD_lt)
       have hD_lt := hD.lt; (try simp only [World.size_alloc] at hD_lt)
       have hD_c0 := hD.cell 0; have hD_f0 := hD.frozen 0
       have hD_c1 := hD.cell 1; have hD_f1 := hD.frozen 1
       have hD_c2 := hD.cell 2; have hD_f2 := hD.frozen 2
       simp only [List.getElem?_toArray, List.getElem?_cons_zero, List.getElem?_cons_succ] at hD_c0 hD_c1 hD_c2
       clear hb1))
  go_ret
  exact ⟨rfl, hBa⟩
set_option maxHeartbeats 4000000 in
theorem sval_any (s : Sc) (A : Option Addr) (c : Nat) (w : World) (h : Pks w w.heap.size A s.xs.length s.xs) (hok : scOk s) :
    Calls Tryz.prog 66 #[rgV s A c, rdV s] w fun e w' => e = .returned (.bool true) ∧ Below w.heap.size w w' := by
  have HV := Lib.hid (srvOk s A c w h hok)
  obtain ⟨hl4, hlc, hc0, hc1⟩ := scOk_len hok
  obtain ⟨-, hn0, hn1, ho0, ho1⟩ := hok
  clear h
  unfold rgV rdV at *
  generalize s.xs.length = n at *
  generalize s.co = co at *
  generalize s.nx = nx at *
  generalize s.lo = lo at *
  have d1 : decide (nx ≤ co) = true := by simpa using hn1
  have hD := (Bk.new w 34 #[.int .i64 4, .int .i64 co, .slice A n c]).alloc (.cells #[.int .i64 nx, .int .i64 lo, .bool s.wt] 36)
  have hX := bk_new1 w (.cells #[.int .i64 4, .int .i64 co, .slice A n c] 34) 36 #[.int .i64 nx, .int .i64 lo, .bool s.wt]
  have hBa : Below w.heap.size w ((w.alloc (.cells #[.int .i64 4, .int .i64 co, .slice A n c] 34)).alloc (.cells #[.int .i64 nx, .int .i64 lo, .bool s.wt] 36)) := (by repeat (first | exact Below.refl _ _ | assumption | refine Below.setCell ?_ (by first | omega | (simp; done) | (simp; omega)) _ | refine Below.alloc ?_ (by first | omega | (simp; done) | (simp; omega)) _ | refine Below.drew ?_ | refine Below.drewN' ?_ _ | refine Below.trans ?_ (Below.mono (by assumption) (by first | omega | (simp; done) | (simp; omega)))))
  (try clear hD_c0); (try clear hD_f0)
  (try clear hD_c1); (try clear hD_f1)
  (try clear hD_c2); (try clear hD_f2)
  (try clear hD_lt)
  have hD_lt := hD.lt; (try simp only [World.size_alloc] at hD_lt)
  have hD_c0 := hD.cell 0; have hD_f0 := hD.frozen 0
  have hD_c1 := hD.cell 1; have hD_f1 := hD.frozen 1
  have hD_c2 := hD.cell 2; have hD_f2 := hD.frozen 2
  simp only [List.getElem?_toArray, List.getElem?_cons_zero, List.getElem?_cons_succ] at hD_c0 hD_c1 hD_c2
  (try clear hX_c0); (try clear hX_f0)
  (try clear hX_c1); (try clear hX_f1)
  (try clear hX_c2); (try clear hX_f2)
  (try clear hX_lt)
  have hX_lt := hX.lt; (try simp only [World.size_alloc] at hX_lt)
  have hX_c0 := hX.cell 0; have hX_f0 := hX.frozen 0
  have hX_c1 := hX.cell 1; have hX_f1 := hX.frozen 1
  have hX_c2 := hX.cell 2; have hX_f2 := hX.frozen 2
  simp only [List.getElem?_toArray, List.getElem?_cons_zero, List.getElem?_cons_succ] at hX_c0 hX_c1 hX_c2
  go_enter Tryz.func66, Tryz.ntmps66
  go_wp2_with (first
    | (go_at_call 50
       refine (HV.out _ hBa).mono ?_
       rintro e w1 ⟨rfl, hb1⟩
       replace hBa := hBa.trans (hb1.mono hBa.size)
       replace hD := hD.below hb1 (by first | omega | exact hD.lt | (simp; done) | (simp; omega))
       (try clear hD_c0); (try clear hD_f0)
       (try clear hD_c1); (try clear hD_f1)
       (try clear hD_c2); (try clear hD_f2)
       (try clear hD_lt)
       have hD_lt := hD.lt; (try simp only [World.size_alloc] at hD_lt)
       have hD_c0 := hD.cell 0; have hD_f0 := hD.frozen 0
       have hD_c1 := hD.cell 1; have hD_f1 := hD.frozen 1
       have hD_c2 := hD.cell 2; have hD_f2 := hD.frozen 2
       simp only [List.getElem?_toArray, List.getElem?_cons_zero, List.getElem?_cons_succ] at hD_c0 hD_c1 hD_c2
       replace hX := hX.below hb1 (by first | omega | exact hX.lt | (simp; done) | (simp; omega))
       (try clear hX_c0); (try clear hX_f0)
       (try clear hX_c1); (try clear hX_f1)
       (try clear hX_c2); (try clear hX_f2)
       (try clear hX_lt)
       have hX_lt := hX.lt; (try simp only [World.size_alloc] at hX_lt)
       have hX_c0 := hX.cell 0; have hX_f0 := hX.frozen 0
       have hX_c1 := hX.cell 1; have hX_f1 := hX.frozen 1
       have hX_c2 := hX.cell 2; have hX_f2 := hX.frozen 2
       simp only [List.getElem?_toArray, List.getElem?_cons_zero, List.getElem?_cons_succ] at hX_c0 hX_c1 hX_c2
       clear hb1)
    | go_in)
  go_ret
  exact ⟨rfl, (by repeat (first | exact Below.refl _ _ | assumption | refine Below.setCell ?_ (by first | omega | (simp; done) | (simp; omega)) _ | refine Below.alloc ?_ (by first | omega | (simp; done) | (simp; omega)) _ | refine Below.drew ?_ | refine Below.drewN' ?_ _ | refine Below.trans ?_ (Below.mono (by assumption) (by first | omega | (simp; done) | (simp; omega)))))⟩

theorem irvOk (s : Sc) (A : Option Addr) (c : Nat) (w : World) (h : Pks w w.heap.size A s.xs.length s.xs) (hok : scOk s) (w' : World) (hw : Below w.heap.size w w') :
    Calls Tryz.prog 91 #[rgV s A c] w' fun e w2 => e = .returned (.bool true) ∧ Below w'.heap.size w' w2 := by
  have := irv_any 4 s.co A s.xs.length c s.xs w' ((h.below hw).more hw.size) (by have := scOk_len hok; omega)
  rw [rgB_true.2 hok.1] at this
  exact this
set_option maxHeartbeats 4000000 in
theorem iold_any (s : Sc) (A : Option Addr) (c : Nat) (w : World) (h : Pks w w.heap.size A s.xs.length s.xs) (hok : scOk s) :
    Calls Tryz.prog 79 #[rgV s A c] w fun e w' => e = .returned (.int .i64 (oldI s)) ∧ Below w.heap.size w w' := by
  have HV := Lib.hid (irvOk s A c w h hok)
  obtain ⟨hl4, hlc, hc0, hc1⟩ := scOk_len hok
  clear h hok
  unfold rgV oldI at *
  generalize s.xs.length = n at *
  generalize s.co = co at *
  have hD := Bk.new w 34 #[.int .i64 4, .int .i64 co, .slice A n c]
  have hBa : Below w.heap.size w (w.alloc (.cells #[.int .i64 4, .int .i64 co, .slice A n c] 34)) := (Below.refl _ _).alloc (Nat.le_refl _) _
  (try clear hD_c0); (try clear hD_f0)
  (try clear hD_c1); (try clear hD_f1)
  (try clear hD_c2); (try clear hD_f2)
  (try clear hD_lt)
  have hD_lt := hD.lt; (try simp only [World.size_alloc] at hD_lt)
  have hD_c0 := hD.cell 0; have hD_f0 := hD.frozen 0
  have hD_c1 := hD.cell 1; have hD_f1 := hD.frozen 1
  have hD_c2 := hD.cell 2; have hD_f2 := hD.frozen 2
  simp only [List.getElem?_toArray, List.getElem?_cons_zero, List.getElem?_cons_succ] at hD_c0 hD_c1 hD_c2
  go_enter Tryz.func79, Tryz.ntmps79
  go_wp2_with (first
    | (go_at_call 91
       refine (HV.out _ hBa).mono ?_
       rintro e w1 ⟨rfl, hb1⟩
       replace hBa := hBa.trans (hb1.mono hBa.size)
       replace hD := hD.below hb1 (by first | omega | exact hD.lt | (simp; done) | (simp; omega))
       (try clear hD_c0); (try clear hD_f0)
       (try clear hD_c1); (try clear hD_f1)
       (try clear hD_c2); (try clear hD_f2)
       (try clear hD_lt)
       have hD_lt := hD.lt; (try simp only [World.size_alloc] at hD_lt)
       have hD_c0 := hD.cell 0; have hD_f0 := hD.frozen 0
       have hD_c1 := hD.cell 1; have hD_f1 := hD.frozen 1
       have hD_c2 := hD.cell 2; have hD_f2 := hD.frozen 2
       simp only [List.getElem?_toArray, List.getElem?_cons_zero, List.getElem?_cons_succ] at hD_c0 hD_c1 hD_c2
       clear hb1))
  go_ret
  exact ⟨rfl, hBa⟩
set_option maxHeartbeats 4000000 in
theorem ival_any (s : Sc) (A : Option Addr) (c : Nat) (w : World) (h : Pks w w.heap.size A s.xs.length s.xs) (hok : scOk s) :
    Calls Tryz.prog 89 #[rgV s A c, rdV s] w fun e w' => e = .returned (.bool true) ∧ Below w.heap.size w w' := by
  have HV := Lib.hid (irvOk s A c w h hok)
  obtain ⟨hl4, hlc, hc0, hc1⟩ := scOk_len hok
  obtain ⟨-, hn0, hn1, ho0, ho1⟩ := hok
  clear h
  unfold rgV rdV at *
  generalize s.xs.length = n at *
  generalize s.co = co at *
  generalize s.nx = nx at *
  generalize s.lo = lo at *
  have d1 : decide (nx ≤ co) = true := by simpa using hn1
  have hD := (Bk.new w 34 #[.int .i64 4, .int .i64 co, .slice A n c]).alloc (.cells #[.int .i64 nx, .int .i64 lo, .bool s.wt] 36)
  have hX := bk_new1 w (.cells #[.int .i64 4, .int .i64 co, .slice A n c] 34) 36 #[.int .i64 nx, .int .i64 lo, .bool s.wt]
  have hBa : Below w.heap.size w ((w.alloc (.cells #[.int .i64 4, .int .i64 co, .slice A n c] 34)).alloc (.cells #[.int .i64 nx, .int .i64 lo, .bool s.wt] 36)) := (by repeat (first | exact Below.refl _ _ | assumption | refine Below.setCell ?_ (by first | omega | (simp; done) | (simp; omega)) _ | refine Below.alloc ?_ (by first | omega | (simp; done) | (simp; omega)) _ | refine Below.drew ?_ | refine Below.drewN' ?_ _ | refine Below.trans ?_ (Below.mono (by assumption) (by first | omega | (simp; done) | (simp; omega)))))
  (try clear hD_c0); (try clear hD_f0)
  (try clear hD_c1); (try clear hD_f1)
  (try clear hD_c2); (try clear hD_f2)
  (try clear hD_lt)
  have hD_lt := hD.lt; (try simp only [World.size_alloc] at hD_lt)
  have hD_c0 := hD.cell 0; have hD_f0 := hD.frozen 0
  have hD_c1 := hD.cell 1; have hD_f1 := hD.frozen 1
  have hD_c2 := hD.cell 2; have hD_f2 := hD.frozen 2
  simp only [List.getElem?_toArray, List.getElem?_cons_zero, List.getElem?_cons_succ] at hD_c0 hD_c1 hD_c2
  (try clear hX_c0); (try clear hX_f0)
  (try clear hX_c1); (try clear hX_f1)
  (try clear hX_c2); (try clear hX_f2)
  (try clear hX_lt)
  have hX_lt := hX.lt; (try simp only [World.size_alloc] at hX_lt)
  have hX_c0 := hX.cell 0; have hX_f0 := hX.frozen 0
  have hX_c1 := hX.cell 1; have hX_f1 := hX.frozen 1
  have hX_c2 := hX.cell 2; have hX_f2 := hX.frozen 2
  simp only [List.getElem?_toArray, List.getElem?_cons_zero, List.getElem?_cons_succ] at hX_c0 hX_c1 hX_c2
  go_enter Tryz.func89, Tryz.ntmps89
  go_wp2_with (first
    | (go_at_call 91
       refine (HV.out _ hBa).mono ?_
       rintro e w1 ⟨rfl, hb1⟩
       replace hBa := hBa.trans (hb1.mono hBa.size)
       replace hD := hD.below hb1 (by first | omega | exact hD.lt | (simp; done) | (simp; omega))
       (try clear hD_c0); (try clear hD_f0)
       (try clear hD_c1); (try clear hD_f1)
       (try clear hD_c2); (try clear hD_f2)
       (try clear hD_lt)
       have hD_lt := hD.lt; (try simp only [World.size_alloc] at hD_lt)
       have hD_c0 := hD.cell 0; have hD_f0 := hD.frozen 0
       have hD_c1 := hD.cell 1; have hD_f1 := hD.frozen 1
       have hD_c2 := hD.cell 2; have hD_f2 := hD.frozen 2
       simp only [List.getElem?_toArray, List.getElem?_cons_zero, List.getElem?_cons_succ] at hD_c0 hD_c1 hD_c2
       replace hX := hX.below hb1 (by first | omega | exact hX.lt | (simp; done) | (simp; omega))
       (try clear hX_c0); (try clear hX_f0)
       (try clear hX_c1); (try clear hX_f1)
       (try clear hX_c2); (try clear hX_f2)
       (try clear hX_lt)
       have hX_lt := hX.lt; (try simp only [World.size_alloc] at hX_lt)
       have hX_c0 := hX.cell 0; have hX_f0 := hX.frozen 0
       have hX_c1 := hX.cell 1; have hX_f1 := hX.frozen 1
       have hX_c2 := hX.cell 2; have hX_f2 := hX.frozen 2
       simp only [List.getElem?_toArray, List.getElem?_cons_zero, List.getElem?_cons_succ] at hX_c0 hX_c1 hX_c2
       clear hb1)
    | go_in)
  go_ret
  exact ⟨rfl, (by repeat (first | exact Below.refl _ _ | assumption | refine Below.setCell ?_ (by first | omega | (simp; done) | (simp; omega)) _ | refine Below.alloc ?_ (by first | omega | (simp; done) | (simp; omega)) _ | refine Below.drew ?_ | refine Below.drewN' ?_ _ | refine Below.trans ?_ (Below.mono (by assumption) (by first | omega | (simp; done) | (simp; omega)))))⟩

theorem newS_eq {s : Sc} (hok : scOk s) : newS s = { s with nx := (goN s.co s.xs 0).1, lo := 0, wt := (goN s.co s.xs 0).2 } := by
  have := scOk_len hok
  unfold newS goN oldI
  by_cases h : 0 ≤ keyI s.xs
  · rw [if_pos h, if_pos ⟨h, by omega⟩]
  · rw [if_neg h, if_neg (fun hh => h hh.1)]
def NewRet (s : Sc) (w : World) (e : Ending) (w' : World) : Prop := e = .returned (.tuple #[rdV (newS s), .bool true]) ∧ Below w.heap.size w w'
theorem newRet_of {s : Sc} {w w' : World} {n : Int} {b : Bool} (hok : scOk s) (h : goN s.co s.xs 0 = (n, b)) (hb : Below w.heap.size w w') : NewRet s w (.returned (.tuple #[.agg #[.int .i64 n, .int .i64 0, .bool b], .bool true])) w' :=
  ⟨by rw [newS_eq hok, h]; rfl, hb⟩
set_option maxHeartbeats 4000000 in
theorem snew_any (s : Sc) (A : Option Addr) (c : Nat) (w : World) (h : Pks w w.heap.size A s.xs.length s.xs) (hok : scOk s) :
    Calls Tryz.prog 38 #[rgV s A c] w (NewRet s w) := by
  have HV := Lib.hid (srvOk s A c w h hok)
  have HK := Lib.hid (fun (w' : World) (hw : Below w.heap.size w w') => skey_any A s.xs.length c s.xs w' ((h.below hw).more hw.size) (by have := scOk_len hok; omega) hok.1.2.2.2.2.1)
  obtain ⟨hl4, hlc, hc0, hc1⟩ := scOk_len hok
  have hkb := keyI_bd s.xs
  have HGO := Lib.hid (fun (h1 : 0 ≤ keyI s.xs) (w' : World) => newRet_of (w := w) (w' := w') (n := s.co - (s.xs.length : Int) + keyI s.xs) (b := false) hok (goN_yes h1 (by omega)))
  have HST := Lib.hid (fun (h1 : keyI s.xs < 0) (w' : World) => newRet_of (w := w) (w' := w') (n := s.co) (b := true) hok (goN_no (by omega)))
  clear h hok
  generalize NewRet s w = R at *
  unfold rgV at *
  generalize keyI s.xs = key at *
  generalize s.xs.length = n at *
  generalize s.co = co at *
  have hD := (Bk.new w 34 #[.int .i64 4, .int .i64 co, .slice A n c]).alloc (.cells #[.int .i64 0, .int .i64 0, .bool false] 36)
  have hR := bk_new1 w (.cells #[.int .i64 4, .int .i64 co, .slice A n c] 34) 36 #[.int .i64 0, .int .i64 0, .bool false]
  have hBa : Below w.heap.size w ((w.alloc (.cells #[.int .i64 4, .int .i64 co, .slice A n c] 34)).alloc (.cells #[.int .i64 0, .int .i64 0, .bool false] 36)) := (by repeat (first | exact Below.refl _ _ | assumption | refine Below.setCell ?_ (by first | omega | (simp; done) | (simp; omega)) _ | refine Below.alloc ?_ (by first | omega | (simp; done) | (simp; omega)) _ | refine Below.drew ?_ | refine Below.drewN' ?_ _ | refine Below.trans ?_ (Below.mono (by assumption) (by first | omega | (simp; done) | (simp; omega)))))
  (try clear hD_c0); (try clear hD_f0)
  (try clear hD_c1); (try clear hD_f1)
  (try clear hD_c2); (try clear hD_f2)
  (try clear hD_lt)
  have hD_lt := hD.lt; (try simp only [World.size_alloc] at hD_lt)
  have hD_c0 := hD.cell 0; have hD_f0 := hD.frozen 0
  have hD_c1 := hD.cell 1; have hD_f1 := hD.frozen 1
  have hD_c2 := hD.cell 2; have hD_f2 := hD.frozen 2
  simp only [List.getElem?_toArray, List.getElem?_cons_zero, List.getElem?_cons_succ] at hD_c0 hD_c1 hD_c2
  (try clear hR_c0); (try clear hR_f0)
  (try clear hR_c1); (try clear hR_f1)
  (try clear hR_c2); (try clear hR_f2)
  (try clear hR_lt)
  have hR_lt := hR.lt; (try simp only [World.size_alloc] at hR_lt)
  have hR_c0 := hR.cell 0; have hR_f0 := hR.frozen 0
  have hR_c1 := hR.cell 1; have hR_f1 := hR.frozen 1
  have hR_c2 := hR.cell 2; have hR_f2 := hR.frozen 2
  simp only [List.getElem?_toArray, List.getElem?_cons_zero, List.getElem?_cons_succ] at hR_c0 hR_c1 hR_c2
  by_cases hk : 0 ≤ key
  · have d1 : decide (key < 0) = false := by simpa using hk
    go_enter Tryz.func38, Tryz.ntmps38
    go_wp2_with (first
      | (go_at_call 50
         refine (HV.out _ hBa).mono ?_
         rintro e w1 ⟨rfl, hb1⟩
         replace hBa := hBa.trans (hb1.mono hBa.size)
         replace hD := hD.below hb1 (by first | omega | exact hD.lt | (simp; done) | (simp; omega))
         (try clear hD_c0); (try clear hD_f0)
         (try clear hD_c1); (try clear hD_f1)
         (try clear hD_c2); (try clear hD_f2)
         (try clear hD_lt)
         have hD_lt := hD.lt; (try simp only [World.size_alloc] at hD_lt)
         have hD_c0 := hD.cell 0; have hD_f0 := hD.frozen 0
         have hD_c1 := hD.cell 1; have hD_f1 := hD.frozen 1
         have hD_c2 := hD.cell 2; have hD_f2 := hD.frozen 2
         simp only [List.getElem?_toArray, List.getElem?_cons_zero, List.getElem?_cons_succ] at hD_c0 hD_c1 hD_c2
         replace hR := hR.below hb1 (by first | omega | exact hR.lt | (simp; done) | (simp; omega))
         (try clear hR_c0); (try clear hR_f0)
         (try clear hR_c1); (try clear hR_f1)
         (try clear hR_c2); (try clear hR_f2)
         (try clear hR_lt)
         have hR_lt := hR.lt; (try simp only [World.size_alloc] at hR_lt)
         have hR_c0 := hR.cell 0; have hR_f0 := hR.frozen 0
         have hR_c1 := hR.cell 1; have hR_f1 := hR.frozen 1
         have hR_c2 := hR.cell 2; have hR_f2 := hR.frozen 2
         simp only [List.getElem?_toArray, List.getElem?_cons_zero, List.getElem?_cons_succ] at hR_c0 hR_c1 hR_c2
         clear hb1)
      | (go_at_call 51
         refine (HK.out _ hBa).mono ?_
         rintro e w1 ⟨rfl, hb1⟩
         replace hBa := hBa.trans (hb1.mono hBa.size)
         replace hD := hD.below hb1 (by first | omega | exact hD.lt | (simp; done) | (simp; omega))
         (try clear hD_c0); (try clear hD_f0)
         (try clear hD_c1); (try clear hD_f1)
         (try clear hD_c2); (try clear hD_f2)
         (try clear hD_lt)
         have hD_lt := hD.lt; (try simp only [World.size_alloc] at hD_lt)
         have hD_c0 := hD.cell 0; have hD_f0 := hD.frozen 0
         have hD_c1 := hD.cell 1; have hD_f1 := hD.frozen 1
         have hD_c2 := hD.cell 2; have hD_f2 := hD.frozen 2
         simp only [List.getElem?_toArray, List.getElem?_cons_zero, List.getElem?_cons_succ] at hD_c0 hD_c1 hD_c2
         replace hR := hR.below hb1 (by first | omega | exact hR.lt | (simp; done) | (simp; omega))
         (try clear hR_c0); (try clear hR_f0)
         (try clear hR_c1); (try clear hR_f1)
         (try clear hR_c2); (try clear hR_f2)
         (try clear hR_lt)
         have hR_lt := hR.lt; (try simp only [World.size_alloc] at hR_lt)
         have hR_c0 := hR.cell 0; have hR_f0 := hR.frozen 0
         have hR_c1 := hR.cell 1; have hR_f1 := hR.frozen 1
         have hR_c2 := hR.cell 2; have hR_f2 := hR.frozen 2
         simp only [List.getElem?_toArray, List.getElem?_cons_zero, List.getElem?_cons_succ] at hR_c0 hR_c1 hR_c2
         clear hb1))
    refine ⟨rfl, ?_⟩
    apply Exists.intro
    apply And.intro
    · simp [results, Tryz.results38, go_sem, hR_c0, hR_c1, hR_c2, hR_lt]; exact rfl
    · exact HGO.out hk _ (by repeat (first | exact Below.refl _ _ | assumption | refine Below.setCell ?_ (by first | omega | (simp; done) | (simp; omega)) _ | refine Below.alloc ?_ (by first | omega | (simp; done) | (simp; omega)) _ | refine Below.drew ?_ | refine Below.drewN' ?_ _ | refine Below.trans ?_ (Below.mono (by assumption) (by first | omega | (simp; done) | (simp; omega)))))
  · have d1 : decide (key < 0) = true := by simpa using hk
    go_enter Tryz.func38, Tryz.ntmps38
    go_wp2_with (first
      | (go_at_call 50
         refine (HV.out _ hBa).mono ?_
         rintro e w1 ⟨rfl, hb1⟩
         replace hBa := hBa.trans (hb1.mono hBa.size)
         replace hD := hD.below hb1 (by first | omega | exact hD.lt | (simp; done) | (simp; omega))
         (try clear hD_c0); (try clear hD_f0)
         (try clear hD_c1); (try clear hD_f1)
         (try clear hD_c2); (try clear hD_f2)
         (try clear hD_lt)
         have hD_lt := hD.lt; (try simp only [World.size_alloc] at hD_lt)
         have hD_c0 := hD.cell 0; have hD_f0 := hD.frozen 0
         have hD_c1 := hD.cell 1; have hD_f1 := hD.frozen 1
         have hD_c2 := hD.cell 2; have hD_f2 := hD.frozen 2
         simp only [List.getElem?_toArray, List.getElem?_cons_zero, List.getElem?_cons_succ] at hD_c0 hD_c1 hD_c2
         replace hR := hR.below hb1 (by first | omega | exact hR.lt | (simp; done) | (simp; omega))
         (try clear hR_c0); (try clear hR_f0)
         (try clear hR_c1); (try clear hR_f1)
         (try clear hR_c2); (try clear hR_f2)
         (try clear hR_lt)
         have hR_lt := hR.lt; (try simp only [World.size_alloc] at hR_lt)
         have hR_c0 := hR.cell 0; have hR_f0 := hR.frozen 0
         have hR_c1 := hR.cell 1; have hR_f1 := hR.frozen 1
         have hR_c2 := hR.cell 2; have hR_f2 := hR.frozen 2
         simp only [List.getElem?_toArray, List.getElem?_cons_zero, List.getElem?_cons_succ] at hR_c0 hR_c1 hR_c2
         clear hb1)
      | (go_at_call 51
         refine (HK.out _ hBa).mono ?_
         rintro e w1 ⟨rfl, hb1⟩
         replace hBa := hBa.trans (hb1.mono hBa.size)
         replace hD := hD.below hb1 (by first | omega | exact hD.lt | (simp; done) | (simp; omega))
         (try clear hD_c0); (try clear hD_f0)
         (try clear hD_c1); (try clear hD_f1)
         (try clear hD_c2); (try clear hD_f2)
         (try clear hD_lt)
         have hD_lt := hD.lt; (try simp only [World.size_alloc] at hD_lt)
         have hD_c0 := hD.cell 0; have hD_f0 := hD.frozen 0
         have hD_c1 := hD.cell 1; have hD_f1 := hD.frozen 1
         have hD_c2 := hD.cell 2; have hD_f2 := hD.frozen 2
         simp only [List.getElem?_toArray, List.getElem?_cons_zero, List.getElem?_cons_succ] at hD_c0 hD_c1 hD_c2
         replace hR := hR.below hb1 (by first | omega | exact hR.lt | (simp; done) | (simp; omega))
         (try clear hR_c0); (try clear hR_f0)
         (try clear hR_c1); (try clear hR_f1)
         (try clear hR_c2); (try clear hR_f2)
         (try clear hR_lt)
         have hR_lt := hR.lt; (try simp only [World.size_alloc] at hR_lt)
         have hR_c0 := hR.cell 0; have hR_f0 := hR.frozen 0
         have hR_c1 := hR.cell 1; have hR_f1 := hR.frozen 1
         have hR_c2 := hR.cell 2; have hR_f2 := hR.frozen 2
         simp only [List.getElem?_toArray, List.getElem?_cons_zero, List.getElem?_cons_succ] at hR_c0 hR_c1 hR_c2
         clear hb1))
    refine ⟨rfl, ?_⟩
    apply Exists.intro
    apply And.intro
    · simp [results, Tryz.results38, go_sem, hR_c0, hR_c1, hR_c2, hR_lt]; exact rfl
    · exact HST.out (by omega) _ (by repeat (first | exact Below.refl _ _ | assumption | refine Below.setCell ?_ (by first | omega | (simp; done) | (simp; omega)) _ | refine Below.alloc ?_ (by first | omega | (simp; done) | (simp; omega)) _ | refine Below.drew ?_ | refine Below.drewN' ?_ _ | refine Below.trans ?_ (Below.mono (by assumption) (by first | omega | (simp; done) | (simp; omega)))))

set_option maxHeartbeats 4000000 in
theorem inew_any (s : Sc) (A : Option Addr) (c : Nat) (w : World) (h : Pks w w.heap.size A s.xs.length s.xs) (hok : scOk s) :
    Calls Tryz.prog 78 #[rgV s A c] w (NewRet s w) := by
  have HV := Lib.hid (irvOk s A c w h hok)
  have hl := scOk_len hok
  have HK := Lib.hid (fun (w' : World) (hw : Below w.heap.size w w') => goOn_any 4 s.co A s.xs.length c s.xs 0 w' ((h.below hw).more hw.size) (by omega) hl.2.2.1 hl.2.2.2 hl.2.1 (by omega) (by omega))
  obtain ⟨hl4, hlc, hc0, hc1⟩ := hl
  have HGO := Lib.hid (fun (m : Int) (b : Bool) (he : goN s.co s.xs 0 = (m, b)) (w' : World) => newRet_of (w := w) (w' := w') (n := m) (b := b) hok he)
  clear h hok
  generalize NewRet s w = R at *
  unfold rgV lostV at *
  generalize goN s.co s.xs 0 = g at *
  obtain ⟨m, b⟩ := g
  replace HGO := Lib.hid (HGO.out m b rfl)
  generalize s.xs.length = n at *
  generalize s.co = co at *
  have hD := (Bk.new w 34 #[.int .i64 4, .int .i64 co, .slice A n c]).alloc (.cells #[.int .i64 0, .int .i64 0, .bool false] 36)
  have hR := bk_new1 w (.cells #[.int .i64 4, .int .i64 co, .slice A n c] 34) 36 #[.int .i64 0, .int .i64 0, .bool false]
  have hBa : Below w.heap.size w ((w.alloc (.cells #[.int .i64 4, .int .i64 co, .slice A n c] 34)).alloc (.cells #[.int .i64 0, .int .i64 0, .bool false] 36)) := (by repeat (first | exact Below.refl _ _ | assumption | refine Below.setCell ?_ (by first | omega | (simp; done) | (simp; omega)) _ | refine Below.alloc ?_ (by first | omega | (simp; done) | (simp; omega)) _ | refine Below.drew ?_ | refine Below.drewN' ?_ _ | refine Below.trans ?_ (Below.mono (by assumption) (by first | omega | (simp; done) | (simp; omega)))))
  (try clear hD_c0); (try clear hD_f0)
  (try clear hD_c1); (try clear hD_f1)
  (try clear hD_c2); (try clear hD_f2)
  (try clear hD_lt)
  have hD_lt := hD.lt; (try simp only [World.size_alloc] at hD_lt)
  have hD_c0 := hD.cell 0; have hD_f0 := hD.frozen 0
  have hD_c1 := hD.cell 1; have hD_f1 := hD.frozen 1
  have hD_c2 := hD.cell 2; have hD_f2 := hD.frozen 2
  simp only [List.getElem?_toArray, List.getElem?_cons_zero, List.getElem?_cons_succ] at hD_c0 hD_c1 hD_c2
  (try clear hR_c0); (try clear hR_f0)
  (try clear hR_c1); (try clear hR_f1)
  (try clear hR_c2); (try clear hR_f2)
  (try clear hR_lt)
  have hR_lt := hR.lt; (try simp only [World.size_alloc] at hR_lt)
  have hR_c0 := hR.cell 0; have hR_f0 := hR.frozen 0
  have hR_c1 := hR.cell 1; have hR_f1 := hR.frozen 1
  have hR_c2 := hR.cell 2; have hR_f2 := hR.frozen 2
  simp only [List.getElem?_toArray, List.getElem?_cons_zero, List.getElem?_cons_succ] at hR_c0 hR_c1 hR_c2
  go_enter Tryz.func78, Tryz.ntmps78
  go_wp2_with (first
    | (go_at_call 91
       refine (HV.out _ hBa).mono ?_
       rintro e w1 ⟨rfl, hb1⟩
       replace hBa := hBa.trans (hb1.mono hBa.size)
       replace hD := hD.below hb1 (by first | omega | exact hD.lt | (simp; done) | (simp; omega))
       (try clear hD_c0); (try clear hD_f0)
       (try clear hD_c1); (try clear hD_f1)
       (try clear hD_c2); (try clear hD_f2)
       (try clear hD_lt)
       have hD_lt := hD.lt; (try simp only [World.size_alloc] at hD_lt)
       have hD_c0 := hD.cell 0; have hD_f0 := hD.frozen 0
       have hD_c1 := hD.cell 1; have hD_f1 := hD.frozen 1
       have hD_c2 := hD.cell 2; have hD_f2 := hD.frozen 2
       simp only [List.getElem?_toArray, List.getElem?_cons_zero, List.getElem?_cons_succ] at hD_c0 hD_c1 hD_c2
       replace hR := hR.below hb1 (by first | omega | exact hR.lt | (simp; done) | (simp; omega))
       (try clear hR_c0); (try clear hR_f0)
       (try clear hR_c1); (try clear hR_f1)
       (try clear hR_c2); (try clear hR_f2)
       (try clear hR_lt)
       have hR_lt := hR.lt; (try simp only [World.size_alloc] at hR_lt)
       have hR_c0 := hR.cell 0; have hR_f0 := hR.frozen 0
       have hR_c1 := hR.cell 1; have hR_f1 := hR.frozen 1
       have hR_c2 := hR.cell 2; have hR_f2 := hR.frozen 2
       simp only [List.getElem?_toArray, List.getElem?_cons_zero, List.getElem?_cons_succ] at hR_c0 hR_c1 hR_c2
       clear hb1)
    | (go_at_call 92
       refine (HK.out _ hBa).mono ?_
       rintro e w1 ⟨rfl, hb1⟩
       replace hBa := hBa.trans (hb1.mono hBa.size)
       replace hD := hD.below hb1 (by first | omega | exact hD.lt | (simp; done) | (simp; omega))
       (try clear hD_c0); (try clear hD_f0)
       (try clear hD_c1); (try clear hD_f1)
       (try clear hD_c2); (try clear hD_f2)
       (try clear hD_lt)
       have hD_lt := hD.lt; (try simp only [World.size_alloc] at hD_lt)
       have hD_c0 := hD.cell 0; have hD_f0 := hD.frozen 0
       have hD_c1 := hD.cell 1; have hD_f1 := hD.frozen 1
       have hD_c2 := hD.cell 2; have hD_f2 := hD.frozen 2
       simp only [List.getElem?_toArray, List.getElem?_cons_zero, List.getElem?_cons_succ] at hD_c0 hD_c1 hD_c2
       replace hR := hR.below hb1 (by first | omega | exact hR.lt | (simp; done) | (simp; omega))
       (try clear hR_c0); (try clear hR_f0)
       (try clear hR_c1); (try clear hR_f1)
       (try clear hR_c2); (try clear hR_f2)
       (try clear hR_lt)
       have hR_lt := hR.lt; (try simp only [World.size_alloc] at hR_lt)
       have hR_c0 := hR.cell 0; have hR_f0 := hR.frozen 0
       have hR_c1 := hR.cell 1; have hR_f1 := hR.frozen 1
       have hR_c2 := hR.cell 2; have hR_f2 := hR.frozen 2
       simp only [List.getElem?_toArray, List.getElem?_cons_zero, List.getElem?_cons_succ] at hR_c0 hR_c1 hR_c2
       clear hb1))
  refine ⟨rfl, ?_⟩
  apply Exists.intro
  apply And.intro
  · simp [results, Tryz.results78, go_sem, hR_c0, hR_c1, hR_c2, hR_lt]; exact rfl
  · exact HGO.out _ (by repeat (first | exact Below.refl _ _ | assumption | refine Below.setCell ?_ (by first | omega | (simp; done) | (simp; omega)) _ | refine Below.alloc ?_ (by first | omega | (simp; done) | (simp; omega)) _ | refine Below.drew ?_ | refine Below.drewN' ?_ _ | refine Below.trans ?_ (Below.mono (by assumption) (by first | omega | (simp; done) | (simp; omega)))))

/-! ### Reading, in the reference -/
theorem skip_ok {s : Sc} {f : Int} (hok : scOk s) (hf : s.nx ≤ f) (hfc : f ≤ s.co) : scOk (skipS s f) := by
  have hl := scOk_len hok
  obtain ⟨h1, h2, h3, h4, h5⟩ := hok
  have hk := keyI_bd s.xs
  unfold skipS oldI
  split
  · rename_i hh
    refine ⟨h1, ?_, ?_, ?_, ?_⟩
    · show 0 ≤ s.co - (s.xs.length : Int) + keyI s.xs
      omega
    · show s.co - (s.xs.length : Int) + keyI s.xs ≤ s.co
      omega
    · show 0 ≤ min (s.lo + (s.co - (s.xs.length : Int) + keyI s.xs) - s.nx) 999999
      omega
    · show min (s.lo + (s.co - (s.xs.length : Int) + keyI s.xs) - s.nx) 999999 ≤ 999999
      omega
  · refine ⟨h1, ?_, ?_, ?_, ?_⟩
    · show 0 ≤ s.co
      omega
    · show s.co ≤ s.co
      omega
    · show 0 ≤ min (s.lo + s.co - s.nx) 999999
      omega
    · show min (s.lo + s.co - s.nx) 999999 ≤ 999999
      omega
theorem skip_of {s : Sc} {f m : Int} {b : Bool} (h : goN s.co s.xs f = (m, b)) : rdV (skipS s f) = .agg #[.int .i64 m, .int .i64 (min (s.lo + m - s.nx) 999999), .bool b] := by
  rw [skipS_eq, h]; rfl
def SkipRet (s : Sc) (f : Int) (w : World) (e : Ending) (w' : World) : Prop := e = .returned (rdV (skipS s f)) ∧ Below w.heap.size w w'
set_option maxHeartbeats 4000000 in
theorem sskip_any (s : Sc) (A : Option Addr) (c : Nat) (f : Int) (w : World) (h : Pks w w.heap.size A s.xs.length s.xs) (hok : scOk s) (hf0 : 0 ≤ f) (hf1 : f ≤ 999999) :
    Calls Tryz.prog 67 #[rgV s A c, rdV s, .int .i64 f] w (SkipRet s f w) := by
  have HK := Lib.hid (fun (w' : World) (hw : Below w.heap.size w w') => skey_any A s.xs.length c s.xs w' ((h.below hw).more hw.size) (by have := scOk_len hok; omega) hok.1.2.2.2.2.1)
  obtain ⟨hl4, hlc, hc0, hc1⟩ := scOk_len hok
  obtain ⟨-, hn0, hn1, ho0, ho1⟩ := hok
  have hkb := keyI_bd s.xs
  have HGO := Lib.hid (fun (h1 : 0 ≤ keyI s.xs ∧ f ≤ s.co - (s.xs.length : Int) + keyI s.xs) => skip_of (goN_yes (co := s.co) (xs := s.xs) (f := f) h1.1 h1.2))
  have HST := Lib.hid (fun (h1 : ¬ (0 ≤ keyI s.xs ∧ f ≤ s.co - (s.xs.length : Int) + keyI s.xs)) => skip_of (goN_no (co := s.co) (xs := s.xs) (f := f) h1))
  have hmin := fun (w : World) (ts : Array TypeId) (t : TypeId) (x y : Int) => @run_min_plain Tryz.prog w ts t x y
  clear h
  unfold SkipRet
  generalize rdV (skipS s f) = rv at *
  unfold rgV rdV at *
  generalize keyI s.xs = key at *
  generalize s.xs.length = n at *
  generalize s.co = co at *
  generalize s.nx = nx at *
  generalize s.lo = lo at *
  generalize s.wt = wt at *
  have hD := (((Bk.new w 34 #[.int .i64 4, .int .i64 co, .slice A n c]).alloc (.cells #[.int .i64 nx, .int .i64 lo, .bool wt] 36)).alloc (.cells #[.int .i64 0, .int .i64 0, .bool false] 36))
  have hX := (bk_new1 w (.cells #[.int .i64 4, .int .i64 co, .slice A n c] 34) 36 #[.int .i64 nx, .int .i64 lo, .bool wt]).alloc (.cells #[.int .i64 0, .int .i64 0, .bool false] 36)
  have hR := bk_new1 (w.alloc (.cells #[.int .i64 4, .int .i64 co, .slice A n c] 34)) (.cells #[.int .i64 nx, .int .i64 lo, .bool wt] 36) 36 #[.int .i64 0, .int .i64 0, .bool false]
  rw [size1] at hR
  have hBa : Below w.heap.size w (((w.alloc (.cells #[.int .i64 4, .int .i64 co, .slice A n c] 34)).alloc (.cells #[.int .i64 nx, .int .i64 lo, .bool wt] 36)).alloc (.cells #[.int .i64 0, .int .i64 0, .bool false] 36)) := (by repeat (first | exact Below.refl _ _ | assumption | refine Below.setCell ?_ (by first | omega | (simp; done) | (simp; omega)) _ | refine Below.alloc ?_ (by first | omega | (simp; done) | (simp; omega)) _ | refine Below.drew ?_ | refine Below.drewN' ?_ _ | refine Below.trans ?_ (Below.mono (by assumption) (by first | omega | (simp; done) | (simp; omega)))))
  (try clear hD_c0); (try clear hD_f0)
  (try clear hD_c1); (try clear hD_f1)
  (try clear hD_c2); (try clear hD_f2)
  (try clear hD_lt)
  have hD_lt := hD.lt; (try simp only [World.size_alloc] at hD_lt)
  have hD_c0 := hD.cell 0; have hD_f0 := hD.frozen 0
  have hD_c1 := hD.cell 1; have hD_f1 := hD.frozen 1
  have hD_c2 := hD.cell 2; have hD_f2 := hD.frozen 2
  simp only [List.getElem?_toArray, List.getElem?_cons_zero, List.getElem?_cons_succ] at hD_c0 hD_c1 hD_c2
  (try clear hX_c0); (try clear hX_f0)
  (try clear hX_c1); (try clear hX_f1)
  (try clear hX_c2); (try clear hX_f2)
  (try clear hX_lt)
  have hX_lt := hX.lt; (try simp only [World.size_alloc] at hX_lt)
  have hX_c0 := hX.cell 0; have hX_f0 := hX.frozen 0
  have hX_c1 := hX.cell 1; have hX_f1 := hX.frozen 1
  have hX_c2 := hX.cell 2; have hX_f2 := hX.frozen 2
  simp only [List.getElem?_toArray, List.getElem?_cons_zero, List.getElem?_cons_succ] at hX_c0 hX_c1 hX_c2
  (try clear hR_c0); (try clear hR_f0)
  (try clear hR_c1); (try clear hR_f1)
  (try clear hR_c2); (try clear hR_f2)
  (try clear hR_lt)
  have hR_lt := hR.lt; (try simp only [World.size_alloc] at hR_lt)
  have hR_c0 := hR.cell 0; have hR_f0 := hR.frozen 0
  have hR_c1 := hR.cell 1; have hR_f1 := hR.frozen 1
  have hR_c2 := hR.cell 2; have hR_f2 := hR.frozen 2
  simp only [List.getElem?_toArray, List.getElem?_cons_zero, List.getElem?_cons_succ] at hR_c0 hR_c1 hR_c2
  by_cases hk : 0 ≤ key
  · by_cases hk2 : f ≤ co - (n : Int) + key
    · have HE := Lib.hid (HGO.out ⟨hk, hk2⟩)
      go_enter Tryz.func67, Tryz.ntmps67
      go_wp2_with (first
        | (go_at_call 51
           refine (HK.out _ hBa).mono ?_
           rintro e w1 ⟨rfl, hb1⟩
           replace hBa := hBa.trans (hb1.mono hBa.size)
           replace hD := hD.below hb1 (by first | omega | exact hD.lt | (simp; done) | (simp; omega))
           (try clear hD_c0); (try clear hD_f0)
           (try clear hD_c1); (try clear hD_f1)
           (try clear hD_c2); (try clear hD_f2)
           (try clear hD_lt)
           have hD_lt := hD.lt; (try simp only [World.size_alloc] at hD_lt)
           have hD_c0 := hD.cell 0; have hD_f0 := hD.frozen 0
           have hD_c1 := hD.cell 1; have hD_f1 := hD.frozen 1
           have hD_c2 := hD.cell 2; have hD_f2 := hD.frozen 2
           simp only [List.getElem?_toArray, List.getElem?_cons_zero, List.getElem?_cons_succ] at hD_c0 hD_c1 hD_c2
           replace hX := hX.below hb1 (by first | omega | exact hX.lt | (simp; done) | (simp; omega))
           (try clear hX_c0); (try clear hX_f0)
           (try clear hX_c1); (try clear hX_f1)
           (try clear hX_c2); (try clear hX_f2)
           (try clear hX_lt)
           have hX_lt := hX.lt; (try simp only [World.size_alloc] at hX_lt)
           have hX_c0 := hX.cell 0; have hX_f0 := hX.frozen 0
           have hX_c1 := hX.cell 1; have hX_f1 := hX.frozen 1
           have hX_c2 := hX.cell 2; have hX_f2 := hX.frozen 2
           simp only [List.getElem?_toArray, List.getElem?_cons_zero, List.getElem?_cons_succ] at hX_c0 hX_c1 hX_c2
           replace hR := hR.below hb1 (by first | omega | exact hR.lt | (simp; done) | (simp; omega))
           (try clear hR_c0); (try clear hR_f0)
           (try clear hR_c1); (try clear hR_f1)
           (try clear hR_c2); (try clear hR_f2)
           (try clear hR_lt)
           have hR_lt := hR.lt; (try simp only [World.size_alloc] at hR_lt)
           have hR_c0 := hR.cell 0; have hR_f0 := hR.frozen 0
           have hR_c1 := hR.cell 1; have hR_f1 := hR.frozen 1
           have hR_c2 := hR.cell 2; have hR_f2 := hR.frozen 2
           simp only [List.getElem?_toArray, List.getElem?_cons_zero, List.getElem?_cons_succ] at hR_c0 hR_c1 hR_c2
           clear hb1))
      refine ⟨rfl, ?_⟩
      apply Exists.intro
      apply And.intro
      · simp [results, Tryz.results67, go_sem, hR_c0, hR_c1, hR_c2, hR_lt]; exact rfl
      · exact ⟨by rw [HE.out], (by repeat (first | exact Below.refl _ _ | assumption | refine Below.setCell ?_ (by first | omega | (simp; done) | (simp; omega)) _ | refine Below.alloc ?_ (by first | omega | (simp; done) | (simp; omega)) _ | refine Below.drew ?_ | refine Below.drewN' ?_ _ | refine Below.trans ?_ (Below.mono (by assumption) (by first | omega | (simp; done) | (simp; omega)))))⟩
    · have HE := Lib.hid (HST.out (fun hh => hk2 hh.2))
      go_enter Tryz.func67, Tryz.ntmps67
      go_wp2_with (first
        | (go_at_call 51
           refine (HK.out _ hBa).mono ?_
           rintro e w1 ⟨rfl, hb1⟩
           replace hBa := hBa.trans (hb1.mono hBa.size)
           replace hD := hD.below hb1 (by first | omega | exact hD.lt | (simp; done) | (simp; omega))
           (try clear hD_c0); (try clear hD_f0)
           (try clear hD_c1); (try clear hD_f1)
           (try clear hD_c2); (try clear hD_f2)
           (try clear hD_lt)
           have hD_lt := hD.lt; (try simp only [World.size_alloc] at hD_lt)
           have hD_c0 := hD.cell 0; have hD_f0 := hD.frozen 0
           have hD_c1 := hD.cell 1; have hD_f1 := hD.frozen 1
           have hD_c2 := hD.cell 2; have hD_f2 := hD.frozen 2
           simp only [List.getElem?_toArray, List.getElem?_cons_zero, List.getElem?_cons_succ] at hD_c0 hD_c1 hD_c2
           replace hX := hX.below hb1 (by first | omega | exact hX.lt | (simp; done) | (simp; omega))
           (try clear hX_c0); (try clear hX_f0)
           (try clear hX_c1); (try clear hX_f1)
           (try clear hX_c2); (try clear hX_f2)
           (try clear hX_lt)
           have hX_lt := hX.lt; (try simp only [World.size_alloc] at hX_lt)
           have hX_c0 := hX.cell 0; have hX_f0 := hX.frozen 0
           have hX_c1 := hX.cell 1; have hX_f1 := hX.frozen 1
           have hX_c2 := hX.cell 2; have hX_f2 := hX.frozen 2
           simp only [List.getElem?_toArray, List.getElem?_cons_zero, List.getElem?_cons_succ] at hX_c0 hX_c1 hX_c2
           replace hR := hR.below hb1 (by first | omega | exact hR.lt | (simp; done) | (simp; omega))
           (try clear hR_c0); (try clear hR_f0)
           (try clear hR_c1); (try clear hR_f1)
           (try clear hR_c2); (try clear hR_f2)
           (try clear hR_lt)
           have hR_lt := hR.lt; (try simp only [World.size_alloc] at hR_lt)
           have hR_c0 := hR.cell 0; have hR_f0 := hR.frozen 0
           have hR_c1 := hR.cell 1; have hR_f1 := hR.frozen 1
           have hR_c2 := hR.cell 2; have hR_f2 := hR.frozen 2
           simp only [List.getElem?_toArray, List.getElem?_cons_zero, List.getElem?_cons_succ] at hR_c0 hR_c1 hR_c2
           clear hb1))
      refine ⟨rfl, ?_⟩
      apply Exists.intro
      apply And.intro
      · simp [results, Tryz.results67, go_sem, hR_c0, hR_c1, hR_c2, hR_lt]; exact rfl
      · exact ⟨by rw [HE.out], (by repeat (first | exact Below.refl _ _ | assumption | refine Below.setCell ?_ (by first | omega | (simp; done) | (simp; omega)) _ | refine Below.alloc ?_ (by first | omega | (simp; done) | (simp; omega)) _ | refine Below.drew ?_ | refine Below.drewN' ?_ _ | refine Below.trans ?_ (Below.mono (by assumption) (by first | omega | (simp; done) | (simp; omega)))))⟩
  · have HE := Lib.hid (HST.out (fun hh => hk hh.1))
    have d1 : decide (0 ≤ key) = false := by simpa using hk
    go_enter Tryz.func67, Tryz.ntmps67
    go_wp2_with (first
      | (go_at_call 51
         refine (HK.out _ hBa).mono ?_
         rintro e w1 ⟨rfl, hb1⟩
         replace hBa := hBa.trans (hb1.mono hBa.size)
         replace hD := hD.below hb1 (by first | omega | exact hD.lt | (simp; done) | (simp; omega))
         (try clear hD_c0); (try clear hD_f0)
         (try clear hD_c1); (try clear hD_f1)
         (try clear hD_c2); (try clear hD_f2)
         (try clear hD_lt)
         have hD_lt := hD.lt; (try simp only [World.size_alloc] at hD_lt)
         have hD_c0 := hD.cell 0; have hD_f0 := hD.frozen 0
         have hD_c1 := hD.cell 1; have hD_f1 := hD.frozen 1
         have hD_c2 := hD.cell 2; have hD_f2 := hD.frozen 2
         simp only [List.getElem?_toArray, List.getElem?_cons_zero, List.getElem?_cons_succ] at hD_c0 hD_c1 hD_c2
         replace hX := hX.below hb1 (by first | omega | exact hX.lt | (simp; done) | (simp; omega))
         (try clear hX_c0); (try clear hX_f0)
         (try clear hX_c1); (try clear hX_f1)
         (try clear hX_c2); (try clear hX_f2)
         (try clear hX_lt)
         have hX_lt := hX.lt; (try simp only [World.size_alloc] at hX_lt)
         have hX_c0 := hX.cell 0; have hX_f0 := hX.frozen 0
         have hX_c1 := hX.cell 1; have hX_f1 := hX.frozen 1
         have hX_c2 := hX.cell 2; have hX_f2 := hX.frozen 2
         simp only [List.getElem?_toArray, List.getElem?_cons_zero, List.getElem?_cons_succ] at hX_c0 hX_c1 hX_c2
         replace hR := hR.below hb1 (by first | omega | exact hR.lt | (simp; done) | (simp; omega))
         (try clear hR_c0); (try clear hR_f0)
         (try clear hR_c1); (try clear hR_f1)
         (try clear hR_c2); (try clear hR_f2)
         (try clear hR_lt)
         have hR_lt := hR.lt; (try simp only [World.size_alloc] at hR_lt)
         have hR_c0 := hR.cell 0; have hR_f0 := hR.frozen 0
         have hR_c1 := hR.cell 1; have hR_f1 := hR.frozen 1
         have hR_c2 := hR.cell 2; have hR_f2 := hR.frozen 2
         simp only [List.getElem?_toArray, List.getElem?_cons_zero, List.getElem?_cons_succ] at hR_c0 hR_c1 hR_c2
         clear hb1))
    refine ⟨rfl, ?_⟩
    apply Exists.intro
    apply And.intro
    · simp [results, Tryz.results67, go_sem, hR_c0, hR_c1, hR_c2, hR_lt]; exact rfl
    · exact ⟨by rw [HE.out], (by repeat (first | exact Below.refl _ _ | assumption | refine Below.setCell ?_ (by first | omega | (simp; done) | (simp; omega)) _ | refine Below.alloc ?_ (by first | omega | (simp; done) | (simp; omega)) _ | refine Below.drew ?_ | refine Below.drewN' ?_ _ | refine Below.trans ?_ (Below.mono (by assumption) (by first | omega | (simp; done) | (simp; omega)))))⟩

end Go.Proofs.YthbkmnladaneaaaGreatDoor
