/-
  Scripts: the program's machine: read.
  Conditions: the state is valid (scOk) and lies at the machine's block; the table of powers of ten holds what it held.
-/
import Derived.Test.YthbkmnladaneaaaGreatDoorScO
namespace Go.Proofs.YthbkmnladaneaaaGreatDoor
open Go.RowKit
set_option linter.unusedVariables false
set_option linter.unusedSimpArgs false
set_option maxRecDepth 100000

theorem Bk.set3 {w : World} {g : Nat} {T : TypeId} {v0 v1 v2 v3 v4 v5 a b c : Value} (h : Bk w g T #[v0, v1, v2, v3, v4, v5]) : Bk (((w.setCell ⟨g, 3, none⟩ a).setCell ⟨g, 4, none⟩ b).setCell ⟨g, 5, none⟩ c) g T #[v0, v1, v2, a, b, c] := ((h.set_ 3 a).set_ 4 b).set_ 5 c
theorem cell_al {w : World} {o : Obj} {k i : Nat} {v : Value} (h : w.cell? ⟨k, i, none⟩ = some v) : (w.alloc o).cell? ⟨k, i, none⟩ = some v := (World.cell?_alloc_past o k i (World.block_lt_of_cell? w _ h)).trans h
theorem cell_set {w : World} {p : Addr} {u : Value} {k i : Nat} {v : Value} (h : w.cell? ⟨k, i, none⟩ = some v) (hp : p.block ≠ k) : (w.setCell p u).cell? ⟨k, i, none⟩ = some v := (World.cell?_setCell_other _ _ _ _ (fun e => hp (by rw [e]))).trans h
theorem mq_only {s s' : Sc} {g : Nat} {w W6 : World} {A : Option Addr} {c : Nat} (hk : Bk w g 38 (mqC s A c)) (hpk : Pks w w.heap.size A s.xs.length s.xs) (hc : s.xs.length ≤ c) (hcm : c ≤ maxLen) (hrt : RT w A s.xs.length) (hx : s'.xs = s.xs) (ho : Only g w W6) (hbk : Bk W6 g 38 (mqC s' A c)) : MQ s' g W6 := by
  refine ⟨A, c, hbk, ?_, ?_, hcm, ?_⟩
  · rw [hx]
    exact Sl.more (Sl.far (X := fun k => k = g) hpk (But.of_only ho rfl) (fun hn k o e => pks_off hpk hk hn k o e)) ho.size
  · rw [hx]; exact hc
  · rw [hx]
    exact hrt.but (X := fun k => k = g) (But.of_only ho rfl) (fun hn k o e => pks_off hpk hk hn k o e)

set_option maxHeartbeats 4000000 in
theorem mread_none (s s' : Sc) (g : Nat) (v0 : Value) (w : World) (h : MQ s g w) (ht : TB w) (hok : scOk s) (htk : takeS s = (s', .none)) :
    Calls Tryz.prog 59 #[.pointer (some ⟨g, 0, none⟩), v0] w (MRet (readS s) g w) := by
  have hmq := h
  obtain ⟨A, c, hk, hpk, hc, hcm, hrt⟩ := h
  have hgl := hk.lt
  have HT := Lib.hid (fun (w' : World) (hw : Below w.heap.size w w') => itake_any s A c w' ((hpk.below hw).more hw.size) hok)
  have hok2 := take_ok hok
  have hring := take_ring s
  have htp := fun p => take_p (p := p) hok
  rw [htk] at hok2 hring htp
  have HOK2 := Lib.hid hok2
  obtain ⟨-, -, -, hlo0, hlo1⟩ := hok2
  simp only at hlo0 hlo1 hring htp
  unfold TakeRet at HT
  rw [htk] at HT
  have hrd : readS s = (s', wNone) := by unfold readS; rw [htk]
  rw [hrd]
  have HM := Lib.hid (fun (W6 : World) (ho : Only g w W6) (hbk : Bk W6 g 38 (mqC s' A c)) => mq_only hk hpk hc hcm hrt hring.1 ho hbk)
  have HS2 := Lib.hid (fun (W6 w7 : World) (hb : Below W6.heap.size W6 w7) (ho : Only g w W6) (hbk : Bk W6 g 38 (mqC s' A c)) => (show MRet (s', wNone) g w (.returned (.string ⟨(wNone).toArray⟩)) w7 from ⟨rfl, (HM.out W6 ho hbk).below hb, ho.trans (Only.of_below hb)⟩))
  unfold mqC at HM HS2 hk
  rw [hring.1, hring.2] at HM HS2
  clear hrd hring hok hmq htk
  unfold rgV rdV tkV tkN  at HT
  generalize MRet (s', wNone) g w = R at *
  generalize hnn : s.xs.length = n at *
  generalize s.co = co at *
  generalize s.nx = nx at *
  generalize s.lo = lo at *
  generalize s.wt = wt at *
  generalize s'.nx = nx2 at *
  generalize s'.lo = lo2 at *
  generalize s'.wt = wt2 at *
  have hKa := hk.drew
  have hBa : Below w.heap.size w w.drew := (Below.refl w.heap.size w).drew
  have hKb := (hk.alloc (.cells #[.int .i64 0, .int .i64 0, .bool false] 36)).drew
  have hBb : Below w.heap.size w (w.alloc (.cells #[.int .i64 0, .int .i64 0, .bool false] 36)).drew := ((Below.refl w.heap.size w).alloc (Nat.le_refl _) (.cells #[.int .i64 0, .int .i64 0, .bool false] 36)).drew
  have hKc := (hk.alloc (.cells #[.int .i64 0, .int .i64 0, .int .i64 0, .int .i64 0, .bool false, .bool false] 81)).drew
  have hBc : Below w.heap.size w (w.alloc (.cells #[.int .i64 0, .int .i64 0, .int .i64 0, .int .i64 0, .bool false, .bool false] 81)).drew := ((Below.refl w.heap.size w).alloc (Nat.le_refl _) (.cells #[.int .i64 0, .int .i64 0, .int .i64 0, .int .i64 0, .bool false, .bool false] 81)).drew
  have hKd := ((hk.alloc (.cells #[.int .i64 0, .int .i64 0, .bool false] 36)).alloc (.cells #[.int .i64 0, .int .i64 0, .int .i64 0, .int .i64 0, .bool false, .bool false] 81)).drew
  have hBd : Below w.heap.size w ((w.alloc (.cells #[.int .i64 0, .int .i64 0, .bool false] 36)).alloc (.cells #[.int .i64 0, .int .i64 0, .int .i64 0, .int .i64 0, .bool false, .bool false] 81)).drew := (((Below.refl w.heap.size w).alloc (Nat.le_refl _) (.cells #[.int .i64 0, .int .i64 0, .bool false] 36)).alloc (by rw [size1]; omega) (.cells #[.int .i64 0, .int .i64 0, .int .i64 0, .int .i64 0, .bool false, .bool false] 81)).drew
  have hKe := ((hk.alloc (.cells #[.int .i64 0, .int .i64 0, .int .i64 0, .int .i64 0, .bool false, .bool false] 81)).alloc (.cells #[.int .i64 0, .int .i64 0, .bool false] 36)).drew
  have hBe : Below w.heap.size w ((w.alloc (.cells #[.int .i64 0, .int .i64 0, .int .i64 0, .int .i64 0, .bool false, .bool false] 81)).alloc (.cells #[.int .i64 0, .int .i64 0, .bool false] 36)).drew := (((Below.refl w.heap.size w).alloc (Nat.le_refl _) (.cells #[.int .i64 0, .int .i64 0, .int .i64 0, .int .i64 0, .bool false, .bool false] 81)).alloc (by rw [size1]; omega) (.cells #[.int .i64 0, .int .i64 0, .bool false] 36)).drew
  have hXb := (Bk.new w 36 #[.int .i64 0, .int .i64 0, .bool false]).drew
  have hXd := ((Bk.new w 36 #[.int .i64 0, .int .i64 0, .bool false]).alloc (.cells #[.int .i64 0, .int .i64 0, .int .i64 0, .int .i64 0, .bool false, .bool false] 81)).drew
  have hXe := (bk_new1 w (.cells #[.int .i64 0, .int .i64 0, .int .i64 0, .int .i64 0, .bool false, .bool false] 81) 36 #[.int .i64 0, .int .i64 0, .bool false]).drew
  have hPc := (Bk.new w 81 #[.int .i64 0, .int .i64 0, .int .i64 0, .int .i64 0, .bool false, .bool false]).drew
  have hPe := ((Bk.new w 81 #[.int .i64 0, .int .i64 0, .int .i64 0, .int .i64 0, .bool false, .bool false]).alloc (.cells #[.int .i64 0, .int .i64 0, .bool false] 36)).drew
  have hPd := (bk_new1 w (.cells #[.int .i64 0, .int .i64 0, .bool false] 36) 81 #[.int .i64 0, .int .i64 0, .int .i64 0, .int .i64 0, .bool false, .bool false]).drew
  (try clear hKa_c0); (try clear hKa_f0)
  (try clear hKa_c1); (try clear hKa_f1)
  (try clear hKa_c2); (try clear hKa_f2)
  (try clear hKa_c3); (try clear hKa_f3)
  (try clear hKa_c4); (try clear hKa_f4)
  (try clear hKa_c5); (try clear hKa_f5)
  (try clear hKa_lt)
  have hKa_lt := hKa.lt; (try simp only [World.size_alloc] at hKa_lt)
  have hKa_c0 := hKa.cell 0; have hKa_f0 := hKa.frozen 0
  have hKa_c1 := hKa.cell 1; have hKa_f1 := hKa.frozen 1
  have hKa_c2 := hKa.cell 2; have hKa_f2 := hKa.frozen 2
  have hKa_c3 := hKa.cell 3; have hKa_f3 := hKa.frozen 3
  have hKa_c4 := hKa.cell 4; have hKa_f4 := hKa.frozen 4
  have hKa_c5 := hKa.cell 5; have hKa_f5 := hKa.frozen 5
  simp only [List.getElem?_toArray, List.getElem?_cons_zero, List.getElem?_cons_succ] at hKa_c0 hKa_c1 hKa_c2 hKa_c3 hKa_c4 hKa_c5
  (try clear hKb_c0); (try clear hKb_f0)
  (try clear hKb_c1); (try clear hKb_f1)
  (try clear hKb_c2); (try clear hKb_f2)
  (try clear hKb_c3); (try clear hKb_f3)
  (try clear hKb_c4); (try clear hKb_f4)
  (try clear hKb_c5); (try clear hKb_f5)
  (try clear hKb_lt)
  have hKb_lt := hKb.lt; (try simp only [World.size_alloc] at hKb_lt)
  have hKb_c0 := hKb.cell 0; have hKb_f0 := hKb.frozen 0
  have hKb_c1 := hKb.cell 1; have hKb_f1 := hKb.frozen 1
  have hKb_c2 := hKb.cell 2; have hKb_f2 := hKb.frozen 2
  have hKb_c3 := hKb.cell 3; have hKb_f3 := hKb.frozen 3
  have hKb_c4 := hKb.cell 4; have hKb_f4 := hKb.frozen 4
  have hKb_c5 := hKb.cell 5; have hKb_f5 := hKb.frozen 5
  simp only [List.getElem?_toArray, List.getElem?_cons_zero, List.getElem?_cons_succ] at hKb_c0 hKb_c1 hKb_c2 hKb_c3 hKb_c4 hKb_c5
  (try clear hKc_c0); (try clear hKc_f0)
  (try clear hKc_c1); (try clear hKc_f1)
  (try clear hKc_c2); (try clear hKc_f2)
  (try clear hKc_c3); (try clear hKc_f3)
  (try clear hKc_c4); (try clear hKc_f4)
  (try clear hKc_c5); (try clear hKc_f5)
  (try clear hKc_lt)
  have hKc_lt := hKc.lt; (try simp only [World.size_alloc] at hKc_lt)
  have hKc_c0 := hKc.cell 0; have hKc_f0 := hKc.frozen 0
  have hKc_c1 := hKc.cell 1; have hKc_f1 := hKc.frozen 1
  have hKc_c2 := hKc.cell 2; have hKc_f2 := hKc.frozen 2
  have hKc_c3 := hKc.cell 3; have hKc_f3 := hKc.frozen 3
  have hKc_c4 := hKc.cell 4; have hKc_f4 := hKc.frozen 4
  have hKc_c5 := hKc.cell 5; have hKc_f5 := hKc.frozen 5
  simp only [List.getElem?_toArray, List.getElem?_cons_zero, List.getElem?_cons_succ] at hKc_c0 hKc_c1 hKc_c2 hKc_c3 hKc_c4 hKc_c5
  (try clear hKd_c0); (try clear hKd_f0)
  (try clear hKd_c1); (try clear hKd_f1)
  (try clear hKd_c2); (try clear hKd_f2)
  (try clear hKd_c3); (try clear hKd_f3)
  (try clear hKd_c4); (try clear hKd_f4)
  (try clear hKd_c5); (try clear hKd_f5)
  (try clear hKd_lt)
  have hKd_lt := hKd.lt; (try simp only [World.size_alloc] at hKd_lt)
  have hKd_c0 := hKd.cell 0; have hKd_f0 := hKd.frozen 0
  have hKd_c1 := hKd.cell 1; have hKd_f1 := hKd.frozen 1
  have hKd_c2 := hKd.cell 2; have hKd_f2 := hKd.frozen 2
  have hKd_c3 := hKd.cell 3; have hKd_f3 := hKd.frozen 3
  have hKd_c4 := hKd.cell 4; have hKd_f4 := hKd.frozen 4
  have hKd_c5 := hKd.cell 5; have hKd_f5 := hKd.frozen 5
  simp only [List.getElem?_toArray, List.getElem?_cons_zero, List.getElem?_cons_succ] at hKd_c0 hKd_c1 hKd_c2 hKd_c3 hKd_c4 hKd_c5
  (try clear hKe_c0); (try clear hKe_f0)
  (try clear hKe_c1); (try clear hKe_f1)
  (try clear hKe_c2); (try clear hKe_f2)
  (try clear hKe_c3); (try clear hKe_f3)
  (try clear hKe_c4); (try clear hKe_f4)
  (try clear hKe_c5); (try clear hKe_f5)
  (try clear hKe_lt)
  have hKe_lt := hKe.lt; (try simp only [World.size_alloc] at hKe_lt)
  have hKe_c0 := hKe.cell 0; have hKe_f0 := hKe.frozen 0
  have hKe_c1 := hKe.cell 1; have hKe_f1 := hKe.frozen 1
  have hKe_c2 := hKe.cell 2; have hKe_f2 := hKe.frozen 2
  have hKe_c3 := hKe.cell 3; have hKe_f3 := hKe.frozen 3
  have hKe_c4 := hKe.cell 4; have hKe_f4 := hKe.frozen 4
  have hKe_c5 := hKe.cell 5; have hKe_f5 := hKe.frozen 5
  simp only [List.getElem?_toArray, List.getElem?_cons_zero, List.getElem?_cons_succ] at hKe_c0 hKe_c1 hKe_c2 hKe_c3 hKe_c4 hKe_c5
  (try clear hXb_c0); (try clear hXb_f0)
  (try clear hXb_c1); (try clear hXb_f1)
  (try clear hXb_c2); (try clear hXb_f2)
  (try clear hXb_lt)
  have hXb_lt := hXb.lt; (try simp only [World.size_alloc] at hXb_lt)
  have hXb_c0 := hXb.cell 0; have hXb_f0 := hXb.frozen 0
  have hXb_c1 := hXb.cell 1; have hXb_f1 := hXb.frozen 1
  have hXb_c2 := hXb.cell 2; have hXb_f2 := hXb.frozen 2
  simp only [List.getElem?_toArray, List.getElem?_cons_zero, List.getElem?_cons_succ] at hXb_c0 hXb_c1 hXb_c2
  (try clear hXd_c0); (try clear hXd_f0)
  (try clear hXd_c1); (try clear hXd_f1)
  (try clear hXd_c2); (try clear hXd_f2)
  (try clear hXd_lt)
  have hXd_lt := hXd.lt; (try simp only [World.size_alloc] at hXd_lt)
  have hXd_c0 := hXd.cell 0; have hXd_f0 := hXd.frozen 0
  have hXd_c1 := hXd.cell 1; have hXd_f1 := hXd.frozen 1
  have hXd_c2 := hXd.cell 2; have hXd_f2 := hXd.frozen 2
  simp only [List.getElem?_toArray, List.getElem?_cons_zero, List.getElem?_cons_succ] at hXd_c0 hXd_c1 hXd_c2
  (try clear hXe_c0); (try clear hXe_f0)
  (try clear hXe_c1); (try clear hXe_f1)
  (try clear hXe_c2); (try clear hXe_f2)
  (try clear hXe_lt)
  have hXe_lt := hXe.lt; (try simp only [World.size_alloc] at hXe_lt)
  have hXe_c0 := hXe.cell 0; have hXe_f0 := hXe.frozen 0
  have hXe_c1 := hXe.cell 1; have hXe_f1 := hXe.frozen 1
  have hXe_c2 := hXe.cell 2; have hXe_f2 := hXe.frozen 2
  simp only [List.getElem?_toArray, List.getElem?_cons_zero, List.getElem?_cons_succ] at hXe_c0 hXe_c1 hXe_c2
  (try clear hPc_c0); (try clear hPc_f0)
  (try clear hPc_c1); (try clear hPc_f1)
  (try clear hPc_c2); (try clear hPc_f2)
  (try clear hPc_c3); (try clear hPc_f3)
  (try clear hPc_c4); (try clear hPc_f4)
  (try clear hPc_c5); (try clear hPc_f5)
  (try clear hPc_lt)
  have hPc_lt := hPc.lt; (try simp only [World.size_alloc] at hPc_lt)
  have hPc_c0 := hPc.cell 0; have hPc_f0 := hPc.frozen 0
  have hPc_c1 := hPc.cell 1; have hPc_f1 := hPc.frozen 1
  have hPc_c2 := hPc.cell 2; have hPc_f2 := hPc.frozen 2
  have hPc_c3 := hPc.cell 3; have hPc_f3 := hPc.frozen 3
  have hPc_c4 := hPc.cell 4; have hPc_f4 := hPc.frozen 4
  have hPc_c5 := hPc.cell 5; have hPc_f5 := hPc.frozen 5
  simp only [List.getElem?_toArray, List.getElem?_cons_zero, List.getElem?_cons_succ] at hPc_c0 hPc_c1 hPc_c2 hPc_c3 hPc_c4 hPc_c5
  (try clear hPe_c0); (try clear hPe_f0)
  (try clear hPe_c1); (try clear hPe_f1)
  (try clear hPe_c2); (try clear hPe_f2)
  (try clear hPe_c3); (try clear hPe_f3)
  (try clear hPe_c4); (try clear hPe_f4)
  (try clear hPe_c5); (try clear hPe_f5)
  (try clear hPe_lt)
  have hPe_lt := hPe.lt; (try simp only [World.size_alloc] at hPe_lt)
  have hPe_c0 := hPe.cell 0; have hPe_f0 := hPe.frozen 0
  have hPe_c1 := hPe.cell 1; have hPe_f1 := hPe.frozen 1
  have hPe_c2 := hPe.cell 2; have hPe_f2 := hPe.frozen 2
  have hPe_c3 := hPe.cell 3; have hPe_f3 := hPe.frozen 3
  have hPe_c4 := hPe.cell 4; have hPe_f4 := hPe.frozen 4
  have hPe_c5 := hPe.cell 5; have hPe_f5 := hPe.frozen 5
  simp only [List.getElem?_toArray, List.getElem?_cons_zero, List.getElem?_cons_succ] at hPe_c0 hPe_c1 hPe_c2 hPe_c3 hPe_c4 hPe_c5
  (try clear hPd_c0); (try clear hPd_f0)
  (try clear hPd_c1); (try clear hPd_f1)
  (try clear hPd_c2); (try clear hPd_f2)
  (try clear hPd_c3); (try clear hPd_f3)
  (try clear hPd_c4); (try clear hPd_f4)
  (try clear hPd_c5); (try clear hPd_f5)
  (try clear hPd_lt)
  have hPd_lt := hPd.lt; (try simp only [World.size_alloc] at hPd_lt)
  have hPd_c0 := hPd.cell 0; have hPd_f0 := hPd.frozen 0
  have hPd_c1 := hPd.cell 1; have hPd_f1 := hPd.frozen 1
  have hPd_c2 := hPd.cell 2; have hPd_f2 := hPd.frozen 2
  have hPd_c3 := hPd.cell 3; have hPd_f3 := hPd.frozen 3
  have hPd_c4 := hPd.cell 4; have hPd_f4 := hPd.frozen 4
  have hPd_c5 := hPd.cell 5; have hPd_f5 := hPd.frozen 5
  simp only [List.getElem?_toArray, List.getElem?_cons_zero, List.getElem?_cons_succ] at hPd_c0 hPd_c1 hPd_c2 hPd_c3 hPd_c4 hPd_c5
  go_enter Tryz.func59, Tryz.ntmps59
  go_wp2_with fail
  go_region_held3 (fun w' => w'.cell? ⟨g, 0, none⟩ = some (.int .i64 4) ∧ w'.cell? ⟨g, 1, none⟩ = some (.int .i64 co) ∧ w'.cell? ⟨g, 2, none⟩ = some (.slice A n c) ∧ w'.cell? ⟨g, 3, none⟩ = some (.int .i64 nx) ∧ w'.cell? ⟨g, 4, none⟩ = some (.int .i64 lo) ∧ w'.cell? ⟨g, 5, none⟩ = some (.bool wt)) (first | with_reducible exact ⟨hKa_c0, hKa_c1, hKa_c2, hKa_c3, hKa_c4, hKa_c5⟩ | with_reducible exact ⟨hKb_c0, hKb_c1, hKb_c2, hKb_c3, hKb_c4, hKb_c5⟩ | with_reducible exact ⟨hKc_c0, hKc_c1, hKc_c2, hKc_c3, hKc_c4, hKc_c5⟩ | with_reducible exact ⟨hKd_c0, hKd_c1, hKd_c2, hKd_c3, hKd_c4, hKd_c5⟩ | with_reducible exact ⟨hKe_c0, hKe_c1, hKe_c2, hKe_c3, hKe_c4, hKe_c5⟩ | with_reducible exact ⟨hK6_c0, hK6_c1, hK6_c2, hK6_c3, hK6_c4, hK6_c5⟩ | with_reducible exact ⟨by repeat (first | with_reducible assumption | with_reducible refine cell_al ?_ | refine cell_set ?_ (by dsimp only; omega)), by repeat (first | with_reducible assumption | with_reducible refine cell_al ?_ | refine cell_set ?_ (by dsimp only; omega)), by repeat (first | with_reducible assumption | with_reducible refine cell_al ?_ | refine cell_set ?_ (by dsimp only; omega)), by repeat (first | with_reducible assumption | with_reducible refine cell_al ?_ | refine cell_set ?_ (by dsimp only; omega)), by repeat (first | with_reducible assumption | with_reducible refine cell_al ?_ | refine cell_set ?_ (by dsimp only; omega)), by repeat (first | with_reducible assumption | with_reducible refine cell_al ?_ | refine cell_set ?_ (by dsimp only; omega))⟩ | go_keep)
    ((go_at_call 77
      refine (HT.out _ (by first | exact hBa | exact hBb | exact hBc | exact hBd | exact hBe)).mono ?_
      rintro e w5 ⟨rfl, hb5⟩
      have hK6 : Bk w5 g 38 #[.int .i64 4, .int .i64 co, .slice A n c, .int .i64 nx, .int .i64 lo, .bool wt] := (by first | exact hKa.below hb5 hKa.lt | exact hKb.below hb5 hKb.lt | exact hKc.below hb5 hKc.lt | exact hKd.below hb5 hKd.lt | exact hKe.below hb5 hKe.lt)
      have hB5 : Below w.heap.size w w5 := by first | exact hBa.trans (hb5.mono (Nat.le_refl _)) | exact hBb.trans (hb5.mono hBb.size) | exact hBc.trans (hb5.mono hBc.size) | exact hBd.trans (hb5.mono hBd.size) | exact hBe.trans (hb5.mono hBe.size)
      have hs5 := hB5.size
      have hK6_lt := hK6.lt; have hK6_c0 := hK6.cell 0; have hK6_f0 := hK6.frozen 0; have hK6_c1 := hK6.cell 1; have hK6_f1 := hK6.frozen 1; have hK6_c2 := hK6.cell 2; have hK6_f2 := hK6.frozen 2; have hK6_c3 := hK6.cell 3; have hK6_f3 := hK6.frozen 3; have hK6_c4 := hK6.cell 4; have hK6_f4 := hK6.frozen 4; have hK6_c5 := hK6.cell 5; have hK6_f5 := hK6.frozen 5; simp only [List.getElem?_toArray, List.getElem?_cons_zero, List.getElem?_cons_succ] at hK6_c0 hK6_c1 hK6_c2 hK6_c3 hK6_c4 hK6_c5
      have hne6 := World.new_ne _ _ hK6_c0
      (try (have hX6 : Bk w5 w.heap.size 36 #[.int .i64 0, .int .i64 0, .bool false] := (by first | exact hXb.below hb5 hXb.lt | exact hXd.below hb5 hXd.lt); have hX6_lt := hX6.lt; have hX6_c0 := hX6.cell 0; have hX6_f0 := hX6.frozen 0; have hX6_c1 := hX6.cell 1; have hX6_f1 := hX6.frozen 1; have hX6_c2 := hX6.cell 2; have hX6_f2 := hX6.frozen 2; simp only [List.getElem?_toArray, List.getElem?_cons_zero, List.getElem?_cons_succ] at hX6_c0 hX6_c1 hX6_c2))
      (try (have hX7 : Bk w5 (w.heap.size + 1) 36 #[.int .i64 0, .int .i64 0, .bool false] := (by first | exact hXe.below hb5 hXe.lt); have hX7_lt := hX7.lt; have hX7_c0 := hX7.cell 0; have hX7_f0 := hX7.frozen 0; have hX7_c1 := hX7.cell 1; have hX7_f1 := hX7.frozen 1; have hX7_c2 := hX7.cell 2; have hX7_f2 := hX7.frozen 2; simp only [List.getElem?_toArray, List.getElem?_cons_zero, List.getElem?_cons_succ] at hX7_c0 hX7_c1 hX7_c2))
      (try (have hP6 : Bk w5 w.heap.size 81 #[.int .i64 0, .int .i64 0, .int .i64 0, .int .i64 0, .bool false, .bool false] := (by first | exact hPc.below hb5 hPc.lt | exact hPe.below hb5 hPe.lt); have hP6_lt := hP6.lt; have hP6_c0 := hP6.cell 0; have hP6_f0 := hP6.frozen 0; have hP6_c1 := hP6.cell 1; have hP6_f1 := hP6.frozen 1; have hP6_c2 := hP6.cell 2; have hP6_f2 := hP6.frozen 2; have hP6_c3 := hP6.cell 3; have hP6_f3 := hP6.frozen 3; have hP6_c4 := hP6.cell 4; have hP6_f4 := hP6.frozen 4; have hP6_c5 := hP6.cell 5; have hP6_f5 := hP6.frozen 5; simp only [List.getElem?_toArray, List.getElem?_cons_zero, List.getElem?_cons_succ] at hP6_c0 hP6_c1 hP6_c2 hP6_c3 hP6_c4 hP6_c5))
      (try (have hP7 : Bk w5 (w.heap.size + 1) 81 #[.int .i64 0, .int .i64 0, .int .i64 0, .int .i64 0, .bool false, .bool false] := (by first | exact hPd.below hb5 hPd.lt); have hP7_lt := hP7.lt; have hP7_c0 := hP7.cell 0; have hP7_f0 := hP7.frozen 0; have hP7_c1 := hP7.cell 1; have hP7_f1 := hP7.frozen 1; have hP7_c2 := hP7.cell 2; have hP7_f2 := hP7.frozen 2; have hP7_c3 := hP7.cell 3; have hP7_f3 := hP7.frozen 3; have hP7_c4 := hP7.cell 4; have hP7_f4 := hP7.frozen 4; have hP7_c5 := hP7.cell 5; have hP7_f5 := hP7.frozen 5; simp only [List.getElem?_toArray, List.getElem?_cons_zero, List.getElem?_cons_succ] at hP7_c0 hP7_c1 hP7_c2 hP7_c3 hP7_c4 hP7_c5))))
  all_goals
    have hneg0 : g ≠ w.heap.size := Nat.ne_of_lt hgl
    have hneg1 : g ≠ w.heap.size + 1 := Nat.ne_of_lt (Nat.lt_succ_of_lt hgl)
    clear hKa hBa hKa_lt hKa_c0 hKa_c1 hKa_c2 hKa_c3 hKa_c4 hKa_c5 hKa_f0 hKa_f1 hKa_f2 hKa_f3 hKa_f4 hKa_f5 hKb hBb hKb_lt hKb_c0 hKb_c1 hKb_c2 hKb_c3 hKb_c4 hKb_c5 hKb_f0 hKb_f1 hKb_f2 hKb_f3 hKb_f4 hKb_f5 hKc hBc hKc_lt hKc_c0 hKc_c1 hKc_c2 hKc_c3 hKc_c4 hKc_c5 hKc_f0 hKc_f1 hKc_f2 hKc_f3 hKc_f4 hKc_f5 hKd hBd hKd_lt hKd_c0 hKd_c1 hKd_c2 hKd_c3 hKd_c4 hKd_c5 hKd_f0 hKd_f1 hKd_f2 hKd_f3 hKd_f4 hKd_f5 hKe hBe hKe_lt hKe_c0 hKe_c1 hKe_c2 hKe_c3 hKe_c4 hKe_c5 hKe_f0 hKe_f1 hKe_f2 hKe_f3 hKe_f4 hKe_f5 hXb hXb_lt hXb_c0 hXb_c1 hXb_c2 hXb_f0 hXb_f1 hXb_f2 hXd hXd_lt hXd_c0 hXd_c1 hXd_c2 hXd_f0 hXd_f1 hXd_f2 hXe hXe_lt hXe_c0 hXe_c1 hXe_c2 hXe_f0 hXe_f1 hXe_f2 hPc hPc_lt hPc_c0 hPc_c1 hPc_c2 hPc_c3 hPc_c4 hPc_c5 hPc_f0 hPc_f1 hPc_f2 hPc_f3 hPc_f4 hPc_f5 hPd hPd_lt hPd_c0 hPd_c1 hPd_c2 hPd_c3 hPd_c4 hPd_c5 hPd_f0 hPd_f1 hPd_f2 hPd_f3 hPd_f4 hPd_f5 hPe hPe_lt hPe_c0 hPe_c1 hPe_c2 hPe_c3 hPe_c4 hPe_c5 hPe_f0 hPe_f1 hPe_f2 hPe_f3 hPe_f4 hPe_f5
    clear HT
    go_wp2
    exact HS2.out _ _ (Below.refl _ _) (by repeat (first | with_reducible exact Only.of_below hB5 | with_reducible refine Only.setCell ?_ (by first | with_reducible exact Or.inl rfl | with_reducible exact Or.inr (Nat.le_refl _) | with_reducible exact Or.inr (le1 w)) _ | with_reducible refine Only.alloc ?_ _ | with_reducible refine Only.drewN ?_ _ | with_reducible refine Only.drew ?_)) (by repeat (first | with_reducible exact hK6 | with_reducible refine Bk.alloc ?_ _ | with_reducible refine Bk.drew ?_ | with_reducible refine Bk.set3 (v3 := .int .i64 nx) (v4 := .int .i64 lo) (v5 := .bool wt) ?_ | with_reducible refine Bk.far ?_ (by first | with_reducible exact hneg0 | with_reducible exact hneg1) _))

set_option maxHeartbeats 4000000 in
theorem mread_got (s s' : Sc) (p : Pk) (g : Nat) (v0 : Value) (w : World) (h : MQ s g w) (ht : TB w) (hok : scOk s) (htk : takeS s = (s', .got p)) :
    Calls Tryz.prog 59 #[.pointer (some ⟨g, 0, none⟩), v0] w (MRet (readS s) g w) := by
  have hmq := h
  obtain ⟨A, c, hk, hpk, hc, hcm, hrt⟩ := h
  have hgl := hk.lt
  have HT := Lib.hid (fun (w' : World) (hw : Below w.heap.size w w') => itake_any s A c w' ((hpk.below hw).more hw.size) hok)
  have hok2 := take_ok hok
  have hring := take_ring s
  have htp := fun p => take_p (p := p) hok
  rw [htk] at hok2 hring htp
  have HOK2 := Lib.hid hok2
  obtain ⟨-, -, -, hlo0, hlo1⟩ := hok2
  simp only at hlo0 hlo1 hring htp
  unfold TakeRet at HT
  rw [htk] at HT
  have hrd : readS s = (s', wGotB ++ dI p.wi) := by unfold readS; rw [htk]
  rw [hrd]
  have HM := Lib.hid (fun (W6 : World) (ho : Only g w W6) (hbk : Bk W6 g 38 (mqC s' A c)) => mq_only hk hpk hc hcm hrt hring.1 ho hbk)
  have hpk1 : 0 ≤ p.wi ∧ p.wi ≤ 999999 := by
    obtain ⟨j, hj⟩ := List.mem_iff_getElem?.1 (htp p rfl)
    have := (hok.1.2.2.2.2.1.2 j p (List.getElem?_eq_some_iff.1 hj).1 hj).1
    unfold pkOk at this
    omega
  have HD := Lib.hid (fun (W6 : World) (ho : Only g w W6) => itoa_any p.wi W6 (hmq.tb ht ho) (by omega) (by omega))
  have hl7 := dI_len7 p.wi
  obtain ⟨l, hll⟩ : ∃ l, dI p.wi = l := ⟨_, rfl⟩
  rw [hll] at HD hl7 ⊢
  obtain ⟨m1, hm1⟩ : ∃ m1, wGotB ++ l = m1 := ⟨_, rfl⟩
  have ap1 := app_str wGotB l m1 hm1
  have hq1 : ¬ 9223372036854775807 < 4 + l.length := by omega
  rw [hm1]
  simp only [wGotB] at ap1
  clear hpk1 hll hm1
  have HS2 := Lib.hid (fun (W6 w7 : World) (hb : Below W6.heap.size W6 w7) (ho : Only g w W6) (hbk : Bk W6 g 38 (mqC s' A c)) => (show MRet (s', m1) g w (.returned (.string ⟨(m1).toArray⟩)) w7 from ⟨rfl, (HM.out W6 ho hbk).below hb, ho.trans (Only.of_below hb)⟩))
  unfold mqC at HM HS2 hk
  rw [hring.1, hring.2] at HM HS2
  clear hrd hring hok hmq htk
  unfold rgV rdV tkV tkN Pk.v at HT
  generalize MRet (s', m1) g w = R at *
  generalize hnn : s.xs.length = n at *
  generalize s.co = co at *
  generalize s.nx = nx at *
  generalize s.lo = lo at *
  generalize s.wt = wt at *
  generalize s'.nx = nx2 at *
  generalize s'.lo = lo2 at *
  generalize s'.wt = wt2 at *
  have hKa := hk.drew
  have hBa : Below w.heap.size w w.drew := (Below.refl w.heap.size w).drew
  have hKb := (hk.alloc (.cells #[.int .i64 0, .int .i64 0, .bool false] 36)).drew
  have hBb : Below w.heap.size w (w.alloc (.cells #[.int .i64 0, .int .i64 0, .bool false] 36)).drew := ((Below.refl w.heap.size w).alloc (Nat.le_refl _) (.cells #[.int .i64 0, .int .i64 0, .bool false] 36)).drew
  have hKc := (hk.alloc (.cells #[.int .i64 0, .int .i64 0, .int .i64 0, .int .i64 0, .bool false, .bool false] 81)).drew
  have hBc : Below w.heap.size w (w.alloc (.cells #[.int .i64 0, .int .i64 0, .int .i64 0, .int .i64 0, .bool false, .bool false] 81)).drew := ((Below.refl w.heap.size w).alloc (Nat.le_refl _) (.cells #[.int .i64 0, .int .i64 0, .int .i64 0, .int .i64 0, .bool false, .bool false] 81)).drew
  have hKd := ((hk.alloc (.cells #[.int .i64 0, .int .i64 0, .bool false] 36)).alloc (.cells #[.int .i64 0, .int .i64 0, .int .i64 0, .int .i64 0, .bool false, .bool false] 81)).drew
  have hBd : Below w.heap.size w ((w.alloc (.cells #[.int .i64 0, .int .i64 0, .bool false] 36)).alloc (.cells #[.int .i64 0, .int .i64 0, .int .i64 0, .int .i64 0, .bool false, .bool false] 81)).drew := (((Below.refl w.heap.size w).alloc (Nat.le_refl _) (.cells #[.int .i64 0, .int .i64 0, .bool false] 36)).alloc (by rw [size1]; omega) (.cells #[.int .i64 0, .int .i64 0, .int .i64 0, .int .i64 0, .bool false, .bool false] 81)).drew
  have hKe := ((hk.alloc (.cells #[.int .i64 0, .int .i64 0, .int .i64 0, .int .i64 0, .bool false, .bool false] 81)).alloc (.cells #[.int .i64 0, .int .i64 0, .bool false] 36)).drew
  have hBe : Below w.heap.size w ((w.alloc (.cells #[.int .i64 0, .int .i64 0, .int .i64 0, .int .i64 0, .bool false, .bool false] 81)).alloc (.cells #[.int .i64 0, .int .i64 0, .bool false] 36)).drew := (((Below.refl w.heap.size w).alloc (Nat.le_refl _) (.cells #[.int .i64 0, .int .i64 0, .int .i64 0, .int .i64 0, .bool false, .bool false] 81)).alloc (by rw [size1]; omega) (.cells #[.int .i64 0, .int .i64 0, .bool false] 36)).drew
  have hXb := (Bk.new w 36 #[.int .i64 0, .int .i64 0, .bool false]).drew
  have hXd := ((Bk.new w 36 #[.int .i64 0, .int .i64 0, .bool false]).alloc (.cells #[.int .i64 0, .int .i64 0, .int .i64 0, .int .i64 0, .bool false, .bool false] 81)).drew
  have hXe := (bk_new1 w (.cells #[.int .i64 0, .int .i64 0, .int .i64 0, .int .i64 0, .bool false, .bool false] 81) 36 #[.int .i64 0, .int .i64 0, .bool false]).drew
  have hPc := (Bk.new w 81 #[.int .i64 0, .int .i64 0, .int .i64 0, .int .i64 0, .bool false, .bool false]).drew
  have hPe := ((Bk.new w 81 #[.int .i64 0, .int .i64 0, .int .i64 0, .int .i64 0, .bool false, .bool false]).alloc (.cells #[.int .i64 0, .int .i64 0, .bool false] 36)).drew
  have hPd := (bk_new1 w (.cells #[.int .i64 0, .int .i64 0, .bool false] 36) 81 #[.int .i64 0, .int .i64 0, .int .i64 0, .int .i64 0, .bool false, .bool false]).drew
  (try clear hKa_c0); (try clear hKa_f0)
  (try clear hKa_c1); (try clear hKa_f1)
  (try clear hKa_c2); (try clear hKa_f2)
  (try clear hKa_c3); (try clear hKa_f3)
  (try clear hKa_c4); (try clear hKa_f4)
  (try clear hKa_c5); (try clear hKa_f5)
  (try clear hKa_lt)
  have hKa_lt := hKa.lt; (try simp only [World.size_alloc] at hKa_lt)
  have hKa_c0 := hKa.cell 0; have hKa_f0 := hKa.frozen 0
  have hKa_c1 := hKa.cell 1; have hKa_f1 := hKa.frozen 1
  have hKa_c2 := hKa.cell 2; have hKa_f2 := hKa.frozen 2
  have hKa_c3 := hKa.cell 3; have hKa_f3 := hKa.frozen 3
  have hKa_c4 := hKa.cell 4; have hKa_f4 := hKa.frozen 4
  have hKa_c5 := hKa.cell 5; have hKa_f5 := hKa.frozen 5
  simp only [List.getElem?_toArray, List.getElem?_cons_zero, List.getElem?_cons_succ] at hKa_c0 hKa_c1 hKa_c2 hKa_c3 hKa_c4 hKa_c5
  (try clear hKb_c0); (try clear hKb_f0)
  (try clear hKb_c1); (try clear hKb_f1)
  (try clear hKb_c2); (try clear hKb_f2)
  (try clear hKb_c3); (try clear hKb_f3)
  (try clear hKb_c4); (try clear hKb_f4)
  (try clear hKb_c5); (try clear hKb_f5)
  (try clear hKb_lt)
  have hKb_lt := hKb.lt; (try simp only [World.size_alloc] at hKb_lt)
  have hKb_c0 := hKb.cell 0; have hKb_f0 := hKb.frozen 0
  have hKb_c1 := hKb.cell 1; have hKb_f1 := hKb.frozen 1
  have hKb_c2 := hKb.cell 2; have hKb_f2 := hKb.frozen 2
  have hKb_c3 := hKb.cell 3; have hKb_f3 := hKb.frozen 3
  have hKb_c4 := hKb.cell 4; have hKb_f4 := hKb.frozen 4
  have hKb_c5 := hKb.cell 5; have hKb_f5 := hKb.frozen 5
  simp only [List.getElem?_toArray, List.getElem?_cons_zero, List.getElem?_cons_succ] at hKb_c0 hKb_c1 hKb_c2 hKb_c3 hKb_c4 hKb_c5
  (try clear hKc_c0); (try clear hKc_f0)
  (try clear hKc_c1); (try clear hKc_f1)
  (try clear hKc_c2); (try clear hKc_f2)
  (try clear hKc_c3); (try clear hKc_f3)
  (try clear hKc_c4); (try clear hKc_f4)
  (try clear hKc_c5); (try clear hKc_f5)
  (try clear hKc_lt)
  have hKc_lt := hKc.lt; (try simp only [World.size_alloc] at hKc_lt)
  have hKc_c0 := hKc.cell 0; have hKc_f0 := hKc.frozen 0
  have hKc_c1 := hKc.cell 1; have hKc_f1 := hKc.frozen 1
  have hKc_c2 := hKc.cell 2; have hKc_f2 := hKc.frozen 2
  have hKc_c3 := hKc.cell 3; have hKc_f3 := hKc.frozen 3
  have hKc_c4 := hKc.cell 4; have hKc_f4 := hKc.frozen 4
  have hKc_c5 := hKc.cell 5; have hKc_f5 := hKc.frozen 5
  simp only [List.getElem?_toArray, List.getElem?_cons_zero, List.getElem?_cons_succ] at hKc_c0 hKc_c1 hKc_c2 hKc_c3 hKc_c4 hKc_c5
  (try clear hKd_c0); (try clear hKd_f0)
  (try clear hKd_c1); (try clear hKd_f1)
  (try clear hKd_c2); (try clear hKd_f2)
  (try clear hKd_c3); (try clear hKd_f3)
  (try clear hKd_c4); (try clear hKd_f4)
  (try clear hKd_c5); (try clear hKd_f5)
  (try clear hKd_lt)
  have hKd_lt := hKd.lt; (try simp only [World.size_alloc] at hKd_lt)
  have hKd_c0 := hKd.cell 0; have hKd_f0 := hKd.frozen 0
  have hKd_c1 := hKd.cell 1; have hKd_f1 := hKd.frozen 1
  have hKd_c2 := hKd.cell 2; have hKd_f2 := hKd.frozen 2
  have hKd_c3 := hKd.cell 3; have hKd_f3 := hKd.frozen 3
  have hKd_c4 := hKd.cell 4; have hKd_f4 := hKd.frozen 4
  have hKd_c5 := hKd.cell 5; have hKd_f5 := hKd.frozen 5
  simp only [List.getElem?_toArray, List.getElem?_cons_zero, List.getElem?_cons_succ] at hKd_c0 hKd_c1 hKd_c2 hKd_c3 hKd_c4 hKd_c5
  (try clear hKe_c0); (try clear hKe_f0)
  (try clear hKe_c1); (try clear hKe_f1)
  (try clear hKe_c2); (try clear hKe_f2)
  (try clear hKe_c3); (try clear hKe_f3)
  (try clear hKe_c4); (try clear hKe_f4)
  (try clear hKe_c5); (try clear hKe_f5)
  (try clear hKe_lt)
  have hKe_lt := hKe.lt; (try simp only [World.size_alloc] at hKe_lt)
  have hKe_c0 := hKe.cell 0; have hKe_f0 := hKe.frozen 0
  have hKe_c1 := hKe.cell 1; have hKe_f1 := hKe.frozen 1
  have hKe_c2 := hKe.cell 2; have hKe_f2 := hKe.frozen 2
  have hKe_c3 := hKe.cell 3; have hKe_f3 := hKe.frozen 3
  have hKe_c4 := hKe.cell 4; have hKe_f4 := hKe.frozen 4
  have hKe_c5 := hKe.cell 5; have hKe_f5 := hKe.frozen 5
  simp only [List.getElem?_toArray, List.getElem?_cons_zero, List.getElem?_cons_succ] at hKe_c0 hKe_c1 hKe_c2 hKe_c3 hKe_c4 hKe_c5
  (try clear hXb_c0); (try clear hXb_f0)
  (try clear hXb_c1); (try clear hXb_f1)
  (try clear hXb_c2); (try clear hXb_f2)
  (try clear hXb_lt)
  have hXb_lt := hXb.lt; (try simp only [World.size_alloc] at hXb_lt)
  have hXb_c0 := hXb.cell 0; have hXb_f0 := hXb.frozen 0
  have hXb_c1 := hXb.cell 1; have hXb_f1 := hXb.frozen 1
  have hXb_c2 := hXb.cell 2; have hXb_f2 := hXb.frozen 2
  simp only [List.getElem?_toArray, List.getElem?_cons_zero, List.getElem?_cons_succ] at hXb_c0 hXb_c1 hXb_c2
  (try clear hXd_c0); (try clear hXd_f0)
  (try clear hXd_c1); (try clear hXd_f1)
  (try clear hXd_c2); (try clear hXd_f2)
  (try clear hXd_lt)
  have hXd_lt := hXd.lt; (try simp only [World.size_alloc] at hXd_lt)
  have hXd_c0 := hXd.cell 0; have hXd_f0 := hXd.frozen 0
  have hXd_c1 := hXd.cell 1; have hXd_f1 := hXd.frozen 1
  have hXd_c2 := hXd.cell 2; have hXd_f2 := hXd.frozen 2
  simp only [List.getElem?_toArray, List.getElem?_cons_zero, List.getElem?_cons_succ] at hXd_c0 hXd_c1 hXd_c2
  (try clear hXe_c0); (try clear hXe_f0)
  (try clear hXe_c1); (try clear hXe_f1)
  (try clear hXe_c2); (try clear hXe_f2)
  (try clear hXe_lt)
  have hXe_lt := hXe.lt; (try simp only [World.size_alloc] at hXe_lt)
  have hXe_c0 := hXe.cell 0; have hXe_f0 := hXe.frozen 0
  have hXe_c1 := hXe.cell 1; have hXe_f1 := hXe.frozen 1
  have hXe_c2 := hXe.cell 2; have hXe_f2 := hXe.frozen 2
  simp only [List.getElem?_toArray, List.getElem?_cons_zero, List.getElem?_cons_succ] at hXe_c0 hXe_c1 hXe_c2
  (try clear hPc_c0); (try clear hPc_f0)
  (try clear hPc_c1); (try clear hPc_f1)
  (try clear hPc_c2); (try clear hPc_f2)
  (try clear hPc_c3); (try clear hPc_f3)
  (try clear hPc_c4); (try clear hPc_f4)
  (try clear hPc_c5); (try clear hPc_f5)
  (try clear hPc_lt)
  have hPc_lt := hPc.lt; (try simp only [World.size_alloc] at hPc_lt)
  have hPc_c0 := hPc.cell 0; have hPc_f0 := hPc.frozen 0
  have hPc_c1 := hPc.cell 1; have hPc_f1 := hPc.frozen 1
  have hPc_c2 := hPc.cell 2; have hPc_f2 := hPc.frozen 2
  have hPc_c3 := hPc.cell 3; have hPc_f3 := hPc.frozen 3
  have hPc_c4 := hPc.cell 4; have hPc_f4 := hPc.frozen 4
  have hPc_c5 := hPc.cell 5; have hPc_f5 := hPc.frozen 5
  simp only [List.getElem?_toArray, List.getElem?_cons_zero, List.getElem?_cons_succ] at hPc_c0 hPc_c1 hPc_c2 hPc_c3 hPc_c4 hPc_c5
  (try clear hPe_c0); (try clear hPe_f0)
  (try clear hPe_c1); (try clear hPe_f1)
  (try clear hPe_c2); (try clear hPe_f2)
  (try clear hPe_c3); (try clear hPe_f3)
  (try clear hPe_c4); (try clear hPe_f4)
  (try clear hPe_c5); (try clear hPe_f5)
  (try clear hPe_lt)
  have hPe_lt := hPe.lt; (try simp only [World.size_alloc] at hPe_lt)
  have hPe_c0 := hPe.cell 0; have hPe_f0 := hPe.frozen 0
  have hPe_c1 := hPe.cell 1; have hPe_f1 := hPe.frozen 1
  have hPe_c2 := hPe.cell 2; have hPe_f2 := hPe.frozen 2
  have hPe_c3 := hPe.cell 3; have hPe_f3 := hPe.frozen 3
  have hPe_c4 := hPe.cell 4; have hPe_f4 := hPe.frozen 4
  have hPe_c5 := hPe.cell 5; have hPe_f5 := hPe.frozen 5
  simp only [List.getElem?_toArray, List.getElem?_cons_zero, List.getElem?_cons_succ] at hPe_c0 hPe_c1 hPe_c2 hPe_c3 hPe_c4 hPe_c5
  (try clear hPd_c0); (try clear hPd_f0)
  (try clear hPd_c1); (try clear hPd_f1)
  (try clear hPd_c2); (try clear hPd_f2)
  (try clear hPd_c3); (try clear hPd_f3)
  (try clear hPd_c4); (try clear hPd_f4)
  (try clear hPd_c5); (try clear hPd_f5)
  (try clear hPd_lt)
  have hPd_lt := hPd.lt; (try simp only [World.size_alloc] at hPd_lt)
  have hPd_c0 := hPd.cell 0; have hPd_f0 := hPd.frozen 0
  have hPd_c1 := hPd.cell 1; have hPd_f1 := hPd.frozen 1
  have hPd_c2 := hPd.cell 2; have hPd_f2 := hPd.frozen 2
  have hPd_c3 := hPd.cell 3; have hPd_f3 := hPd.frozen 3
  have hPd_c4 := hPd.cell 4; have hPd_f4 := hPd.frozen 4
  have hPd_c5 := hPd.cell 5; have hPd_f5 := hPd.frozen 5
  simp only [List.getElem?_toArray, List.getElem?_cons_zero, List.getElem?_cons_succ] at hPd_c0 hPd_c1 hPd_c2 hPd_c3 hPd_c4 hPd_c5
  go_enter Tryz.func59, Tryz.ntmps59
  go_wp2_with fail
  go_region_held3 (fun w' => w'.cell? ⟨g, 0, none⟩ = some (.int .i64 4) ∧ w'.cell? ⟨g, 1, none⟩ = some (.int .i64 co) ∧ w'.cell? ⟨g, 2, none⟩ = some (.slice A n c) ∧ w'.cell? ⟨g, 3, none⟩ = some (.int .i64 nx) ∧ w'.cell? ⟨g, 4, none⟩ = some (.int .i64 lo) ∧ w'.cell? ⟨g, 5, none⟩ = some (.bool wt)) (first | with_reducible exact ⟨hKa_c0, hKa_c1, hKa_c2, hKa_c3, hKa_c4, hKa_c5⟩ | with_reducible exact ⟨hKb_c0, hKb_c1, hKb_c2, hKb_c3, hKb_c4, hKb_c5⟩ | with_reducible exact ⟨hKc_c0, hKc_c1, hKc_c2, hKc_c3, hKc_c4, hKc_c5⟩ | with_reducible exact ⟨hKd_c0, hKd_c1, hKd_c2, hKd_c3, hKd_c4, hKd_c5⟩ | with_reducible exact ⟨hKe_c0, hKe_c1, hKe_c2, hKe_c3, hKe_c4, hKe_c5⟩ | with_reducible exact ⟨hK6_c0, hK6_c1, hK6_c2, hK6_c3, hK6_c4, hK6_c5⟩ | with_reducible exact ⟨by repeat (first | with_reducible assumption | with_reducible refine cell_al ?_ | refine cell_set ?_ (by dsimp only; omega)), by repeat (first | with_reducible assumption | with_reducible refine cell_al ?_ | refine cell_set ?_ (by dsimp only; omega)), by repeat (first | with_reducible assumption | with_reducible refine cell_al ?_ | refine cell_set ?_ (by dsimp only; omega)), by repeat (first | with_reducible assumption | with_reducible refine cell_al ?_ | refine cell_set ?_ (by dsimp only; omega)), by repeat (first | with_reducible assumption | with_reducible refine cell_al ?_ | refine cell_set ?_ (by dsimp only; omega)), by repeat (first | with_reducible assumption | with_reducible refine cell_al ?_ | refine cell_set ?_ (by dsimp only; omega))⟩ | go_keep)
    ((go_at_call 77
      refine (HT.out _ (by first | exact hBa | exact hBb | exact hBc | exact hBd | exact hBe)).mono ?_
      rintro e w5 ⟨rfl, hb5⟩
      have hK6 : Bk w5 g 38 #[.int .i64 4, .int .i64 co, .slice A n c, .int .i64 nx, .int .i64 lo, .bool wt] := (by first | exact hKa.below hb5 hKa.lt | exact hKb.below hb5 hKb.lt | exact hKc.below hb5 hKc.lt | exact hKd.below hb5 hKd.lt | exact hKe.below hb5 hKe.lt)
      have hB5 : Below w.heap.size w w5 := by first | exact hBa.trans (hb5.mono (Nat.le_refl _)) | exact hBb.trans (hb5.mono hBb.size) | exact hBc.trans (hb5.mono hBc.size) | exact hBd.trans (hb5.mono hBd.size) | exact hBe.trans (hb5.mono hBe.size)
      have hs5 := hB5.size
      have hK6_lt := hK6.lt; have hK6_c0 := hK6.cell 0; have hK6_f0 := hK6.frozen 0; have hK6_c1 := hK6.cell 1; have hK6_f1 := hK6.frozen 1; have hK6_c2 := hK6.cell 2; have hK6_f2 := hK6.frozen 2; have hK6_c3 := hK6.cell 3; have hK6_f3 := hK6.frozen 3; have hK6_c4 := hK6.cell 4; have hK6_f4 := hK6.frozen 4; have hK6_c5 := hK6.cell 5; have hK6_f5 := hK6.frozen 5; simp only [List.getElem?_toArray, List.getElem?_cons_zero, List.getElem?_cons_succ] at hK6_c0 hK6_c1 hK6_c2 hK6_c3 hK6_c4 hK6_c5
      have hne6 := World.new_ne _ _ hK6_c0
      (try (have hX6 : Bk w5 w.heap.size 36 #[.int .i64 0, .int .i64 0, .bool false] := (by first | exact hXb.below hb5 hXb.lt | exact hXd.below hb5 hXd.lt); have hX6_lt := hX6.lt; have hX6_c0 := hX6.cell 0; have hX6_f0 := hX6.frozen 0; have hX6_c1 := hX6.cell 1; have hX6_f1 := hX6.frozen 1; have hX6_c2 := hX6.cell 2; have hX6_f2 := hX6.frozen 2; simp only [List.getElem?_toArray, List.getElem?_cons_zero, List.getElem?_cons_succ] at hX6_c0 hX6_c1 hX6_c2))
      (try (have hX7 : Bk w5 (w.heap.size + 1) 36 #[.int .i64 0, .int .i64 0, .bool false] := (by first | exact hXe.below hb5 hXe.lt); have hX7_lt := hX7.lt; have hX7_c0 := hX7.cell 0; have hX7_f0 := hX7.frozen 0; have hX7_c1 := hX7.cell 1; have hX7_f1 := hX7.frozen 1; have hX7_c2 := hX7.cell 2; have hX7_f2 := hX7.frozen 2; simp only [List.getElem?_toArray, List.getElem?_cons_zero, List.getElem?_cons_succ] at hX7_c0 hX7_c1 hX7_c2))
      (try (have hP6 : Bk w5 w.heap.size 81 #[.int .i64 0, .int .i64 0, .int .i64 0, .int .i64 0, .bool false, .bool false] := (by first | exact hPc.below hb5 hPc.lt | exact hPe.below hb5 hPe.lt); have hP6_lt := hP6.lt; have hP6_c0 := hP6.cell 0; have hP6_f0 := hP6.frozen 0; have hP6_c1 := hP6.cell 1; have hP6_f1 := hP6.frozen 1; have hP6_c2 := hP6.cell 2; have hP6_f2 := hP6.frozen 2; have hP6_c3 := hP6.cell 3; have hP6_f3 := hP6.frozen 3; have hP6_c4 := hP6.cell 4; have hP6_f4 := hP6.frozen 4; have hP6_c5 := hP6.cell 5; have hP6_f5 := hP6.frozen 5; simp only [List.getElem?_toArray, List.getElem?_cons_zero, List.getElem?_cons_succ] at hP6_c0 hP6_c1 hP6_c2 hP6_c3 hP6_c4 hP6_c5))
      (try (have hP7 : Bk w5 (w.heap.size + 1) 81 #[.int .i64 0, .int .i64 0, .int .i64 0, .int .i64 0, .bool false, .bool false] := (by first | exact hPd.below hb5 hPd.lt); have hP7_lt := hP7.lt; have hP7_c0 := hP7.cell 0; have hP7_f0 := hP7.frozen 0; have hP7_c1 := hP7.cell 1; have hP7_f1 := hP7.frozen 1; have hP7_c2 := hP7.cell 2; have hP7_f2 := hP7.frozen 2; have hP7_c3 := hP7.cell 3; have hP7_f3 := hP7.frozen 3; have hP7_c4 := hP7.cell 4; have hP7_f4 := hP7.frozen 4; have hP7_c5 := hP7.cell 5; have hP7_f5 := hP7.frozen 5; simp only [List.getElem?_toArray, List.getElem?_cons_zero, List.getElem?_cons_succ] at hP7_c0 hP7_c1 hP7_c2 hP7_c3 hP7_c4 hP7_c5))))
  all_goals
    have hneg0 : g ≠ w.heap.size := Nat.ne_of_lt hgl
    have hneg1 : g ≠ w.heap.size + 1 := Nat.ne_of_lt (Nat.lt_succ_of_lt hgl)
    clear hKa hBa hKa_lt hKa_c0 hKa_c1 hKa_c2 hKa_c3 hKa_c4 hKa_c5 hKa_f0 hKa_f1 hKa_f2 hKa_f3 hKa_f4 hKa_f5 hKb hBb hKb_lt hKb_c0 hKb_c1 hKb_c2 hKb_c3 hKb_c4 hKb_c5 hKb_f0 hKb_f1 hKb_f2 hKb_f3 hKb_f4 hKb_f5 hKc hBc hKc_lt hKc_c0 hKc_c1 hKc_c2 hKc_c3 hKc_c4 hKc_c5 hKc_f0 hKc_f1 hKc_f2 hKc_f3 hKc_f4 hKc_f5 hKd hBd hKd_lt hKd_c0 hKd_c1 hKd_c2 hKd_c3 hKd_c4 hKd_c5 hKd_f0 hKd_f1 hKd_f2 hKd_f3 hKd_f4 hKd_f5 hKe hBe hKe_lt hKe_c0 hKe_c1 hKe_c2 hKe_c3 hKe_c4 hKe_c5 hKe_f0 hKe_f1 hKe_f2 hKe_f3 hKe_f4 hKe_f5 hXb hXb_lt hXb_c0 hXb_c1 hXb_c2 hXb_f0 hXb_f1 hXb_f2 hXd hXd_lt hXd_c0 hXd_c1 hXd_c2 hXd_f0 hXd_f1 hXd_f2 hXe hXe_lt hXe_c0 hXe_c1 hXe_c2 hXe_f0 hXe_f1 hXe_f2 hPc hPc_lt hPc_c0 hPc_c1 hPc_c2 hPc_c3 hPc_c4 hPc_c5 hPc_f0 hPc_f1 hPc_f2 hPc_f3 hPc_f4 hPc_f5 hPd hPd_lt hPd_c0 hPd_c1 hPd_c2 hPd_c3 hPd_c4 hPd_c5 hPd_f0 hPd_f1 hPd_f2 hPd_f3 hPd_f4 hPd_f5 hPe hPe_lt hPe_c0 hPe_c1 hPe_c2 hPe_c3 hPe_c4 hPe_c5 hPe_f0 hPe_f1 hPe_f2 hPe_f3 hPe_f4 hPe_f5
    clear HT
    go_wp2_with (go_at_call 34; refine (HD.out _ (by repeat (first | with_reducible exact Only.of_below hB5 | with_reducible refine Only.setCell ?_ (by first | with_reducible exact Or.inl rfl | with_reducible exact Or.inr (Nat.le_refl _) | with_reducible exact Or.inr (le1 w)) _ | with_reducible refine Only.alloc ?_ _ | with_reducible refine Only.drewN ?_ _ | with_reducible refine Only.drew ?_))).mono ?_; rintro e w7 ⟨rfl, hb7⟩)
    exact HS2.out _ _ hb7 (by repeat (first | with_reducible exact Only.of_below hB5 | with_reducible refine Only.setCell ?_ (by first | with_reducible exact Or.inl rfl | with_reducible exact Or.inr (Nat.le_refl _) | with_reducible exact Or.inr (le1 w)) _ | with_reducible refine Only.alloc ?_ _ | with_reducible refine Only.drewN ?_ _ | with_reducible refine Only.drew ?_)) (by repeat (first | with_reducible exact hK6 | with_reducible refine Bk.alloc ?_ _ | with_reducible refine Bk.drew ?_ | with_reducible refine Bk.set3 (v3 := .int .i64 nx) (v4 := .int .i64 lo) (v5 := .bool wt) ?_ | with_reducible refine Bk.far ?_ (by first | with_reducible exact hneg0 | with_reducible exact hneg1) _))

set_option maxHeartbeats 4000000 in
theorem mread_lost (s s' : Sc) (g : Nat) (v0 : Value) (w : World) (h : MQ s g w) (ht : TB w) (hok : scOk s) (htk : takeS s = (s', .lost)) :
    Calls Tryz.prog 59 #[.pointer (some ⟨g, 0, none⟩), v0] w (MRet (readS s) g w) := by
  have hmq := h
  obtain ⟨A, c, hk, hpk, hc, hcm, hrt⟩ := h
  have hgl := hk.lt
  have HT := Lib.hid (fun (w' : World) (hw : Below w.heap.size w w') => itake_any s A c w' ((hpk.below hw).more hw.size) hok)
  have hok2 := take_ok hok
  have hring := take_ring s
  have htp := fun p => take_p (p := p) hok
  rw [htk] at hok2 hring htp
  have HOK2 := Lib.hid hok2
  obtain ⟨-, -, -, hlo0, hlo1⟩ := hok2
  simp only at hlo0 hlo1 hring htp
  unfold TakeRet at HT
  rw [htk] at HT
  have hrd : readS s = (s', lostA s') := by unfold readS; rw [htk]
  rw [hrd]
  have HM := Lib.hid (fun (W6 : World) (ho : Only g w W6) (hbk : Bk W6 g 38 (mqC s' A c)) => mq_only hk hpk hc hcm hrt hring.1 ho hbk)
  have HL := Lib.hid (fun (W6 : World) (ho : Only g w W6) (hbk : Bk W6 g 38 (mqC s' A c)) => mlost_any s' g W6 (HM.out W6 ho hbk) (hmq.tb ht ho) HOK2.out)
  unfold mqC at HL
  rw [hring.1, hring.2] at HL
  have HS2 := Lib.hid (fun (W6 w7 : World) (hb : Below W6.heap.size W6 w7) (ho : Only g w W6) (hbk : Bk W6 g 38 (mqC s' A c)) => (show MRet (s', lostA s') g w (.returned (.string ⟨(lostA s').toArray⟩)) w7 from ⟨rfl, (HM.out W6 ho hbk).below hb, ho.trans (Only.of_below hb)⟩))
  unfold mqC at HM HS2 hk
  rw [hring.1, hring.2] at HM HS2
  clear hrd hring hok hmq htk
  unfold rgV rdV tkV tkN  at HT
  generalize MRet (s', lostA s') g w = R at *
  generalize hnn : s.xs.length = n at *
  generalize s.co = co at *
  generalize s.nx = nx at *
  generalize s.lo = lo at *
  generalize s.wt = wt at *
  generalize s'.nx = nx2 at *
  generalize s'.lo = lo2 at *
  generalize s'.wt = wt2 at *
  have hKa := hk.drew
  have hBa : Below w.heap.size w w.drew := (Below.refl w.heap.size w).drew
  have hKb := (hk.alloc (.cells #[.int .i64 0, .int .i64 0, .bool false] 36)).drew
  have hBb : Below w.heap.size w (w.alloc (.cells #[.int .i64 0, .int .i64 0, .bool false] 36)).drew := ((Below.refl w.heap.size w).alloc (Nat.le_refl _) (.cells #[.int .i64 0, .int .i64 0, .bool false] 36)).drew
  have hKc := (hk.alloc (.cells #[.int .i64 0, .int .i64 0, .int .i64 0, .int .i64 0, .bool false, .bool false] 81)).drew
  have hBc : Below w.heap.size w (w.alloc (.cells #[.int .i64 0, .int .i64 0, .int .i64 0, .int .i64 0, .bool false, .bool false] 81)).drew := ((Below.refl w.heap.size w).alloc (Nat.le_refl _) (.cells #[.int .i64 0, .int .i64 0, .int .i64 0, .int .i64 0, .bool false, .bool false] 81)).drew
  have hKd := ((hk.alloc (.cells #[.int .i64 0, .int .i64 0, .bool false] 36)).alloc (.cells #[.int .i64 0, .int .i64 0, .int .i64 0, .int .i64 0, .bool false, .bool false] 81)).drew
  have hBd : Below w.heap.size w ((w.alloc (.cells #[.int .i64 0, .int .i64 0, .bool false] 36)).alloc (.cells #[.int .i64 0, .int .i64 0, .int .i64 0, .int .i64 0, .bool false, .bool false] 81)).drew := (((Below.refl w.heap.size w).alloc (Nat.le_refl _) (.cells #[.int .i64 0, .int .i64 0, .bool false] 36)).alloc (by rw [size1]; omega) (.cells #[.int .i64 0, .int .i64 0, .int .i64 0, .int .i64 0, .bool false, .bool false] 81)).drew
  have hKe := ((hk.alloc (.cells #[.int .i64 0, .int .i64 0, .int .i64 0, .int .i64 0, .bool false, .bool false] 81)).alloc (.cells #[.int .i64 0, .int .i64 0, .bool false] 36)).drew
  have hBe : Below w.heap.size w ((w.alloc (.cells #[.int .i64 0, .int .i64 0, .int .i64 0, .int .i64 0, .bool false, .bool false] 81)).alloc (.cells #[.int .i64 0, .int .i64 0, .bool false] 36)).drew := (((Below.refl w.heap.size w).alloc (Nat.le_refl _) (.cells #[.int .i64 0, .int .i64 0, .int .i64 0, .int .i64 0, .bool false, .bool false] 81)).alloc (by rw [size1]; omega) (.cells #[.int .i64 0, .int .i64 0, .bool false] 36)).drew
  have hXb := (Bk.new w 36 #[.int .i64 0, .int .i64 0, .bool false]).drew
  have hXd := ((Bk.new w 36 #[.int .i64 0, .int .i64 0, .bool false]).alloc (.cells #[.int .i64 0, .int .i64 0, .int .i64 0, .int .i64 0, .bool false, .bool false] 81)).drew
  have hXe := (bk_new1 w (.cells #[.int .i64 0, .int .i64 0, .int .i64 0, .int .i64 0, .bool false, .bool false] 81) 36 #[.int .i64 0, .int .i64 0, .bool false]).drew
  have hPc := (Bk.new w 81 #[.int .i64 0, .int .i64 0, .int .i64 0, .int .i64 0, .bool false, .bool false]).drew
  have hPe := ((Bk.new w 81 #[.int .i64 0, .int .i64 0, .int .i64 0, .int .i64 0, .bool false, .bool false]).alloc (.cells #[.int .i64 0, .int .i64 0, .bool false] 36)).drew
  have hPd := (bk_new1 w (.cells #[.int .i64 0, .int .i64 0, .bool false] 36) 81 #[.int .i64 0, .int .i64 0, .int .i64 0, .int .i64 0, .bool false, .bool false]).drew
  (try clear hKa_c0); (try clear hKa_f0)
  (try clear hKa_c1); (try clear hKa_f1)
  (try clear hKa_c2); (try clear hKa_f2)
  (try clear hKa_c3); (try clear hKa_f3)
  (try clear hKa_c4); (try clear hKa_f4)
  (try clear hKa_c5); (try clear hKa_f5)
  (try clear hKa_lt)
  have hKa_lt := hKa.lt; (try simp only [World.size_alloc] at hKa_lt)
  have hKa_c0 := hKa.cell 0; have hKa_f0 := hKa.frozen 0
  have hKa_c1 := hKa.cell 1; have hKa_f1 := hKa.frozen 1
  have hKa_c2 := hKa.cell 2; have hKa_f2 := hKa.frozen 2
  have hKa_c3 := hKa.cell 3; have hKa_f3 := hKa.frozen 3
  have hKa_c4 := hKa.cell 4; have hKa_f4 := hKa.frozen 4
  have hKa_c5 := hKa.cell 5; have hKa_f5 := hKa.frozen 5
  simp only [List.getElem?_toArray, List.getElem?_cons_zero, List.getElem?_cons_succ] at hKa_c0 hKa_c1 hKa_c2 hKa_c3 hKa_c4 hKa_c5
  (try clear hKb_c0); (try clear hKb_f0)
  (try clear hKb_c1); (try clear hKb_f1)
  (try clear hKb_c2); (try clear hKb_f2)
  (try clear hKb_c3); (try clear hKb_f3)
  (try clear hKb_c4); (try clear hKb_f4)
  (try clear hKb_c5); (try clear hKb_f5)
  (try clear hKb_lt)
  have hKb_lt := hKb.lt; (try simp only [World.size_alloc] at hKb_lt)
  have hKb_c0 := hKb.cell 0; have hKb_f0 := hKb.frozen 0
  have hKb_c1 := hKb.cell 1; have hKb_f1 := hKb.frozen 1
  have hKb_c2 := hKb.cell 2; have hKb_f2 := hKb.frozen 2
  have hKb_c3 := hKb.cell 3; have hKb_f3 := hKb.frozen 3
  have hKb_c4 := hKb.cell 4; have hKb_f4 := hKb.frozen 4
  have hKb_c5 := hKb.cell 5; have hKb_f5 := hKb.frozen 5
  simp only [List.getElem?_toArray, List.getElem?_cons_zero, List.getElem?_cons_succ] at hKb_c0 hKb_c1 hKb_c2 hKb_c3 hKb_c4 hKb_c5
  (try clear hKc_c0); (try clear hKc_f0)
  (try clear hKc_c1); (try clear hKc_f1)
  (try clear hKc_c2); (try clear hKc_f2)
  (try clear hKc_c3); (try clear hKc_f3)
  (try clear hKc_c4); (try clear hKc_f4)
  (try clear hKc_c5); (try clear hKc_f5)
  (try clear hKc_lt)
  have hKc_lt := hKc.lt; (try simp only [World.size_alloc] at hKc_lt)
  have hKc_c0 := hKc.cell 0; have hKc_f0 := hKc.frozen 0
  have hKc_c1 := hKc.cell 1; have hKc_f1 := hKc.frozen 1
  have hKc_c2 := hKc.cell 2; have hKc_f2 := hKc.frozen 2
  have hKc_c3 := hKc.cell 3; have hKc_f3 := hKc.frozen 3
  have hKc_c4 := hKc.cell 4; have hKc_f4 := hKc.frozen 4
  have hKc_c5 := hKc.cell 5; have hKc_f5 := hKc.frozen 5
  simp only [List.getElem?_toArray, List.getElem?_cons_zero, List.getElem?_cons_succ] at hKc_c0 hKc_c1 hKc_c2 hKc_c3 hKc_c4 hKc_c5
  (try clear hKd_c0); (try clear hKd_f0)
  (try clear hKd_c1); (try clear hKd_f1)
  (try clear hKd_c2); (try clear hKd_f2)
  (try clear hKd_c3); (try clear hKd_f3)
  (try clear hKd_c4); (try clear hKd_f4)
  (try clear hKd_c5); (try clear hKd_f5)
  (try clear hKd_lt)
  have hKd_lt := hKd.lt; (try simp only [World.size_alloc] at hKd_lt)
  have hKd_c0 := hKd.cell 0; have hKd_f0 := hKd.frozen 0
  have hKd_c1 := hKd.cell 1; have hKd_f1 := hKd.frozen 1
  have hKd_c2 := hKd.cell 2; have hKd_f2 := hKd.frozen 2
  have hKd_c3 := hKd.cell 3; have hKd_f3 := hKd.frozen 3
  have hKd_c4 := hKd.cell 4; have hKd_f4 := hKd.frozen 4
  have hKd_c5 := hKd.cell 5; have hKd_f5 := hKd.frozen 5
  simp only [List.getElem?_toArray, List.getElem?_cons_zero, List.getElem?_cons_succ] at hKd_c0 hKd_c1 hKd_c2 hKd_c3 hKd_c4 hKd_c5
  (try clear hKe_c0); (try clear hKe_f0)
  (try clear hKe_c1); (try clear hKe_f1)
  (try clear hKe_c2); (try clear hKe_f2)
  (try clear hKe_c3); (try clear hKe_f3)
  (try clear hKe_c4); (try clear hKe_f4)
  (try clear hKe_c5); (try clear hKe_f5)
  (try clear hKe_lt)
  have hKe_lt := hKe.lt; (try simp only [World.size_alloc] at hKe_lt)
  have hKe_c0 := hKe.cell 0; have hKe_f0 := hKe.frozen 0
  have hKe_c1 := hKe.cell 1; have hKe_f1 := hKe.frozen 1
  have hKe_c2 := hKe.cell 2; have hKe_f2 := hKe.frozen 2
  have hKe_c3 := hKe.cell 3; have hKe_f3 := hKe.frozen 3
  have hKe_c4 := hKe.cell 4; have hKe_f4 := hKe.frozen 4
  have hKe_c5 := hKe.cell 5; have hKe_f5 := hKe.frozen 5
  simp only [List.getElem?_toArray, List.getElem?_cons_zero, List.getElem?_cons_succ] at hKe_c0 hKe_c1 hKe_c2 hKe_c3 hKe_c4 hKe_c5
  (try clear hXb_c0); (try clear hXb_f0)
  (try clear hXb_c1); (try clear hXb_f1)
  (try clear hXb_c2); (try clear hXb_f2)
  (try clear hXb_lt)
  have hXb_lt := hXb.lt; (try simp only [World.size_alloc] at hXb_lt)
  have hXb_c0 := hXb.cell 0; have hXb_f0 := hXb.frozen 0
  have hXb_c1 := hXb.cell 1; have hXb_f1 := hXb.frozen 1
  have hXb_c2 := hXb.cell 2; have hXb_f2 := hXb.frozen 2
  simp only [List.getElem?_toArray, List.getElem?_cons_zero, List.getElem?_cons_succ] at hXb_c0 hXb_c1 hXb_c2
  (try clear hXd_c0); (try clear hXd_f0)
  (try clear hXd_c1); (try clear hXd_f1)
  (try clear hXd_c2); (try clear hXd_f2)
  (try clear hXd_lt)
  have hXd_lt := hXd.lt; (try simp only [World.size_alloc] at hXd_lt)
  have hXd_c0 := hXd.cell 0; have hXd_f0 := hXd.frozen 0
  have hXd_c1 := hXd.cell 1; have hXd_f1 := hXd.frozen 1
  have hXd_c2 := hXd.cell 2; have hXd_f2 := hXd.frozen 2
  simp only [List.getElem?_toArray, List.getElem?_cons_zero, List.getElem?_cons_succ] at hXd_c0 hXd_c1 hXd_c2
  (try clear hXe_c0); (try clear hXe_f0)
  (try clear hXe_c1); (try clear hXe_f1)
  (try clear hXe_c2); (try clear hXe_f2)
  (try clear hXe_lt)
  have hXe_lt := hXe.lt; (try simp only [World.size_alloc] at hXe_lt)
  have hXe_c0 := hXe.cell 0; have hXe_f0 := hXe.frozen 0
  have hXe_c1 := hXe.cell 1; have hXe_f1 := hXe.frozen 1
  have hXe_c2 := hXe.cell 2; have hXe_f2 := hXe.frozen 2
  simp only [List.getElem?_toArray, List.getElem?_cons_zero, List.getElem?_cons_succ] at hXe_c0 hXe_c1 hXe_c2
  (try clear hPc_c0); (try clear hPc_f0)
  (try clear hPc_c1); (try clear hPc_f1)
  (try clear hPc_c2); (try clear hPc_f2)
  (try clear hPc_c3); (try clear hPc_f3)
  (try clear hPc_c4); (try clear hPc_f4)
  (try clear hPc_c5); (try clear hPc_f5)
  (try clear hPc_lt)
  have hPc_lt := hPc.lt; (try simp only [World.size_alloc] at hPc_lt)
  have hPc_c0 := hPc.cell 0; have hPc_f0 := hPc.frozen 0
  have hPc_c1 := hPc.cell 1; have hPc_f1 := hPc.frozen 1
  have hPc_c2 := hPc.cell 2; have hPc_f2 := hPc.frozen 2
  have hPc_c3 := hPc.cell 3; have hPc_f3 := hPc.frozen 3
  have hPc_c4 := hPc.cell 4; have hPc_f4 := hPc.frozen 4
  have hPc_c5 := hPc.cell 5; have hPc_f5 := hPc.frozen 5
  simp only [List.getElem?_toArray, List.getElem?_cons_zero, List.getElem?_cons_succ] at hPc_c0 hPc_c1 hPc_c2 hPc_c3 hPc_c4 hPc_c5
  (try clear hPe_c0); (try clear hPe_f0)
  (try clear hPe_c1); (try clear hPe_f1)
  (try clear hPe_c2); (try clear hPe_f2)
  (try clear hPe_c3); (try clear hPe_f3)
  (try clear hPe_c4); (try clear hPe_f4)
  (try clear hPe_c5); (try clear hPe_f5)
  (try clear hPe_lt)
  have hPe_lt := hPe.lt; (try simp only [World.size_alloc] at hPe_lt)
  have hPe_c0 := hPe.cell 0; have hPe_f0 := hPe.frozen 0
  have hPe_c1 := hPe.cell 1; have hPe_f1 := hPe.frozen 1
  have hPe_c2 := hPe.cell 2; have hPe_f2 := hPe.frozen 2
  have hPe_c3 := hPe.cell 3; have hPe_f3 := hPe.frozen 3
  have hPe_c4 := hPe.cell 4; have hPe_f4 := hPe.frozen 4
  have hPe_c5 := hPe.cell 5; have hPe_f5 := hPe.frozen 5
  simp only [List.getElem?_toArray, List.getElem?_cons_zero, List.getElem?_cons_succ] at hPe_c0 hPe_c1 hPe_c2 hPe_c3 hPe_c4 hPe_c5
  (try clear hPd_c0); (try clear hPd_f0)
  (try clear hPd_c1); (try clear hPd_f1)
  (try clear hPd_c2); (try clear hPd_f2)
  (try clear hPd_c3); (try clear hPd_f3)
  (try clear hPd_c4); (try clear hPd_f4)
  (try clear hPd_c5); (try clear hPd_f5)
  (try clear hPd_lt)
  have hPd_lt := hPd.lt; (try simp only [World.size_alloc] at hPd_lt)
  have hPd_c0 := hPd.cell 0; have hPd_f0 := hPd.frozen 0
  have hPd_c1 := hPd.cell 1; have hPd_f1 := hPd.frozen 1
  have hPd_c2 := hPd.cell 2; have hPd_f2 := hPd.frozen 2
  have hPd_c3 := hPd.cell 3; have hPd_f3 := hPd.frozen 3
  have hPd_c4 := hPd.cell 4; have hPd_f4 := hPd.frozen 4
  have hPd_c5 := hPd.cell 5; have hPd_f5 := hPd.frozen 5
  simp only [List.getElem?_toArray, List.getElem?_cons_zero, List.getElem?_cons_succ] at hPd_c0 hPd_c1 hPd_c2 hPd_c3 hPd_c4 hPd_c5
  go_enter Tryz.func59, Tryz.ntmps59
  go_wp2_with fail
  go_region_held3 (fun w' => w'.cell? ⟨g, 0, none⟩ = some (.int .i64 4) ∧ w'.cell? ⟨g, 1, none⟩ = some (.int .i64 co) ∧ w'.cell? ⟨g, 2, none⟩ = some (.slice A n c) ∧ w'.cell? ⟨g, 3, none⟩ = some (.int .i64 nx) ∧ w'.cell? ⟨g, 4, none⟩ = some (.int .i64 lo) ∧ w'.cell? ⟨g, 5, none⟩ = some (.bool wt)) (first | with_reducible exact ⟨hKa_c0, hKa_c1, hKa_c2, hKa_c3, hKa_c4, hKa_c5⟩ | with_reducible exact ⟨hKb_c0, hKb_c1, hKb_c2, hKb_c3, hKb_c4, hKb_c5⟩ | with_reducible exact ⟨hKc_c0, hKc_c1, hKc_c2, hKc_c3, hKc_c4, hKc_c5⟩ | with_reducible exact ⟨hKd_c0, hKd_c1, hKd_c2, hKd_c3, hKd_c4, hKd_c5⟩ | with_reducible exact ⟨hKe_c0, hKe_c1, hKe_c2, hKe_c3, hKe_c4, hKe_c5⟩ | with_reducible exact ⟨hK6_c0, hK6_c1, hK6_c2, hK6_c3, hK6_c4, hK6_c5⟩ | with_reducible exact ⟨by repeat (first | with_reducible assumption | with_reducible refine cell_al ?_ | refine cell_set ?_ (by dsimp only; omega)), by repeat (first | with_reducible assumption | with_reducible refine cell_al ?_ | refine cell_set ?_ (by dsimp only; omega)), by repeat (first | with_reducible assumption | with_reducible refine cell_al ?_ | refine cell_set ?_ (by dsimp only; omega)), by repeat (first | with_reducible assumption | with_reducible refine cell_al ?_ | refine cell_set ?_ (by dsimp only; omega)), by repeat (first | with_reducible assumption | with_reducible refine cell_al ?_ | refine cell_set ?_ (by dsimp only; omega)), by repeat (first | with_reducible assumption | with_reducible refine cell_al ?_ | refine cell_set ?_ (by dsimp only; omega))⟩ | go_keep)
    ((go_at_call 77
      refine (HT.out _ (by first | exact hBa | exact hBb | exact hBc | exact hBd | exact hBe)).mono ?_
      rintro e w5 ⟨rfl, hb5⟩
      have hK6 : Bk w5 g 38 #[.int .i64 4, .int .i64 co, .slice A n c, .int .i64 nx, .int .i64 lo, .bool wt] := (by first | exact hKa.below hb5 hKa.lt | exact hKb.below hb5 hKb.lt | exact hKc.below hb5 hKc.lt | exact hKd.below hb5 hKd.lt | exact hKe.below hb5 hKe.lt)
      have hB5 : Below w.heap.size w w5 := by first | exact hBa.trans (hb5.mono (Nat.le_refl _)) | exact hBb.trans (hb5.mono hBb.size) | exact hBc.trans (hb5.mono hBc.size) | exact hBd.trans (hb5.mono hBd.size) | exact hBe.trans (hb5.mono hBe.size)
      have hs5 := hB5.size
      have hK6_lt := hK6.lt; have hK6_c0 := hK6.cell 0; have hK6_f0 := hK6.frozen 0; have hK6_c1 := hK6.cell 1; have hK6_f1 := hK6.frozen 1; have hK6_c2 := hK6.cell 2; have hK6_f2 := hK6.frozen 2; have hK6_c3 := hK6.cell 3; have hK6_f3 := hK6.frozen 3; have hK6_c4 := hK6.cell 4; have hK6_f4 := hK6.frozen 4; have hK6_c5 := hK6.cell 5; have hK6_f5 := hK6.frozen 5; simp only [List.getElem?_toArray, List.getElem?_cons_zero, List.getElem?_cons_succ] at hK6_c0 hK6_c1 hK6_c2 hK6_c3 hK6_c4 hK6_c5
      have hne6 := World.new_ne _ _ hK6_c0
      (try (have hX6 : Bk w5 w.heap.size 36 #[.int .i64 0, .int .i64 0, .bool false] := (by first | exact hXb.below hb5 hXb.lt | exact hXd.below hb5 hXd.lt); have hX6_lt := hX6.lt; have hX6_c0 := hX6.cell 0; have hX6_f0 := hX6.frozen 0; have hX6_c1 := hX6.cell 1; have hX6_f1 := hX6.frozen 1; have hX6_c2 := hX6.cell 2; have hX6_f2 := hX6.frozen 2; simp only [List.getElem?_toArray, List.getElem?_cons_zero, List.getElem?_cons_succ] at hX6_c0 hX6_c1 hX6_c2))
      (try (have hX7 : Bk w5 (w.heap.size + 1) 36 #[.int .i64 0, .int .i64 0, .bool false] := (by first | exact hXe.below hb5 hXe.lt); have hX7_lt := hX7.lt; have hX7_c0 := hX7.cell 0; have hX7_f0 := hX7.frozen 0; have hX7_c1 := hX7.cell 1; have hX7_f1 := hX7.frozen 1; have hX7_c2 := hX7.cell 2; have hX7_f2 := hX7.frozen 2; simp only [List.getElem?_toArray, List.getElem?_cons_zero, List.getElem?_cons_succ] at hX7_c0 hX7_c1 hX7_c2))
      (try (have hP6 : Bk w5 w.heap.size 81 #[.int .i64 0, .int .i64 0, .int .i64 0, .int .i64 0, .bool false, .bool false] := (by first | exact hPc.below hb5 hPc.lt | exact hPe.below hb5 hPe.lt); have hP6_lt := hP6.lt; have hP6_c0 := hP6.cell 0; have hP6_f0 := hP6.frozen 0; have hP6_c1 := hP6.cell 1; have hP6_f1 := hP6.frozen 1; have hP6_c2 := hP6.cell 2; have hP6_f2 := hP6.frozen 2; have hP6_c3 := hP6.cell 3; have hP6_f3 := hP6.frozen 3; have hP6_c4 := hP6.cell 4; have hP6_f4 := hP6.frozen 4; have hP6_c5 := hP6.cell 5; have hP6_f5 := hP6.frozen 5; simp only [List.getElem?_toArray, List.getElem?_cons_zero, List.getElem?_cons_succ] at hP6_c0 hP6_c1 hP6_c2 hP6_c3 hP6_c4 hP6_c5))
      (try (have hP7 : Bk w5 (w.heap.size + 1) 81 #[.int .i64 0, .int .i64 0, .int .i64 0, .int .i64 0, .bool false, .bool false] := (by first | exact hPd.below hb5 hPd.lt); have hP7_lt := hP7.lt; have hP7_c0 := hP7.cell 0; have hP7_f0 := hP7.frozen 0; have hP7_c1 := hP7.cell 1; have hP7_f1 := hP7.frozen 1; have hP7_c2 := hP7.cell 2; have hP7_f2 := hP7.frozen 2; have hP7_c3 := hP7.cell 3; have hP7_f3 := hP7.frozen 3; have hP7_c4 := hP7.cell 4; have hP7_f4 := hP7.frozen 4; have hP7_c5 := hP7.cell 5; have hP7_f5 := hP7.frozen 5; simp only [List.getElem?_toArray, List.getElem?_cons_zero, List.getElem?_cons_succ] at hP7_c0 hP7_c1 hP7_c2 hP7_c3 hP7_c4 hP7_c5))))
  all_goals
    have hneg0 : g ≠ w.heap.size := Nat.ne_of_lt hgl
    have hneg1 : g ≠ w.heap.size + 1 := Nat.ne_of_lt (Nat.lt_succ_of_lt hgl)
    clear hKa hBa hKa_lt hKa_c0 hKa_c1 hKa_c2 hKa_c3 hKa_c4 hKa_c5 hKa_f0 hKa_f1 hKa_f2 hKa_f3 hKa_f4 hKa_f5 hKb hBb hKb_lt hKb_c0 hKb_c1 hKb_c2 hKb_c3 hKb_c4 hKb_c5 hKb_f0 hKb_f1 hKb_f2 hKb_f3 hKb_f4 hKb_f5 hKc hBc hKc_lt hKc_c0 hKc_c1 hKc_c2 hKc_c3 hKc_c4 hKc_c5 hKc_f0 hKc_f1 hKc_f2 hKc_f3 hKc_f4 hKc_f5 hKd hBd hKd_lt hKd_c0 hKd_c1 hKd_c2 hKd_c3 hKd_c4 hKd_c5 hKd_f0 hKd_f1 hKd_f2 hKd_f3 hKd_f4 hKd_f5 hKe hBe hKe_lt hKe_c0 hKe_c1 hKe_c2 hKe_c3 hKe_c4 hKe_c5 hKe_f0 hKe_f1 hKe_f2 hKe_f3 hKe_f4 hKe_f5 hXb hXb_lt hXb_c0 hXb_c1 hXb_c2 hXb_f0 hXb_f1 hXb_f2 hXd hXd_lt hXd_c0 hXd_c1 hXd_c2 hXd_f0 hXd_f1 hXd_f2 hXe hXe_lt hXe_c0 hXe_c1 hXe_c2 hXe_f0 hXe_f1 hXe_f2 hPc hPc_lt hPc_c0 hPc_c1 hPc_c2 hPc_c3 hPc_c4 hPc_c5 hPc_f0 hPc_f1 hPc_f2 hPc_f3 hPc_f4 hPc_f5 hPd hPd_lt hPd_c0 hPd_c1 hPd_c2 hPd_c3 hPd_c4 hPd_c5 hPd_f0 hPd_f1 hPd_f2 hPd_f3 hPd_f4 hPd_f5 hPe hPe_lt hPe_c0 hPe_c1 hPe_c2 hPe_c3 hPe_c4 hPe_c5 hPe_f0 hPe_f1 hPe_f2 hPe_f3 hPe_f4 hPe_f5
    clear HT
    go_wp2_with (go_at_call 24; refine (HL.out _ (by repeat (first | with_reducible exact Only.of_below hB5 | with_reducible refine Only.setCell ?_ (by first | with_reducible exact Or.inl rfl | with_reducible exact Or.inr (Nat.le_refl _) | with_reducible exact Or.inr (le1 w)) _ | with_reducible refine Only.alloc ?_ _ | with_reducible refine Only.drewN ?_ _ | with_reducible refine Only.drew ?_)) (by repeat (first | with_reducible exact hK6 | with_reducible refine Bk.alloc ?_ _ | with_reducible refine Bk.drew ?_ | with_reducible refine Bk.set3 (v3 := .int .i64 nx) (v4 := .int .i64 lo) (v5 := .bool wt) ?_ | with_reducible refine Bk.far ?_ (by first | with_reducible exact hneg0 | with_reducible exact hneg1) _))).mono ?_; rintro e w7 ⟨rfl, hb7⟩)
    exact HS2.out _ _ hb7 (by repeat (first | with_reducible exact Only.of_below hB5 | with_reducible refine Only.setCell ?_ (by first | with_reducible exact Or.inl rfl | with_reducible exact Or.inr (Nat.le_refl _) | with_reducible exact Or.inr (le1 w)) _ | with_reducible refine Only.alloc ?_ _ | with_reducible refine Only.drewN ?_ _ | with_reducible refine Only.drew ?_)) (by repeat (first | with_reducible exact hK6 | with_reducible refine Bk.alloc ?_ _ | with_reducible refine Bk.drew ?_ | with_reducible refine Bk.set3 (v3 := .int .i64 nx) (v4 := .int .i64 lo) (v5 := .bool wt) ?_ | with_reducible refine Bk.far ?_ (by first | with_reducible exact hneg0 | with_reducible exact hneg1) _))

theorem mread_any (s : Sc) (g : Nat) (v0 : Value) (w : World) (h : MQ s g w) (ht : TB w) (hok : scOk s) :
    Calls Tryz.prog 59 #[.pointer (some ⟨g, 0, none⟩), v0] w (MRet (readS s) g w) := by
  cases htk : takeS s with
  | mk s' t =>
    cases t with
    | none => exact mread_none s s' g v0 w h ht hok htk
    | got p => exact mread_got s s' p g v0 w h ht hok htk
    | lost => exact mread_lost s s' g v0 w h ht hok htk

end Go.Proofs.YthbkmnladaneaaaGreatDoor
