/-
  Scripts: a line, in the program.
  Conditions: the state is valid (scOk) and lies at the machine's block; the table of powers of ten holds what it held; the line has at most 500 bytes.
-/
import Derived.Test.YthbkmnladaneaaaGreatDoorScA
import Derived.BigCall
namespace Go.Proofs.YthbkmnladaneaaaGreatDoor
open Go.RowKit
set_option linter.unusedVariables false
set_option linter.unusedSimpArgs false
set_option maxRecDepth 100000

theorem fn_enters (k : Nat) (hk : k < 6) (args : Array Value) (w : World) : (callFunc (cmdF k) args).run Tryz.prog w = .ok (.enter (cmdF k) args) w := by
  rcases (show k = 0 ∨ k = 1 ∨ k = 2 ∨ k = 3 ∨ k = 4 ∨ k = 5 by omega) with e | e | e | e | e | e <;> subst e
  · exact enters_of Tryz.func57 (by kernel_rfl) rfl args w
  · exact enters_of Tryz.func58 (by kernel_rfl) rfl args w
  · exact enters_of Tryz.func59 (by kernel_rfl) rfl args w
  · exact enters_of Tryz.func60 (by kernel_rfl) rfl args w
  · exact enters_of Tryz.func61 (by kernel_rfl) rfl args w
  · exact enters_of Tryz.func62 (by kernel_rfl) rfl args w
theorem inum_yes (a : List UInt8) (w : World) (ha : a.length ≤ 500) (hb : numB a = true) : Calls Tryz.prog 33 #[.string (ByteArray.mk a.toArray)] w fun e w' => e = .returned (.int .i64 (valL a)) ∧ w = w' := by
  refine (inum_any (ByteArray.mk a.toArray) w (by show a.toArray.size ≤ 500; simpa using ha)).mono ?_
  rintro e w' ⟨⟨h1, h2⟩ | ⟨h1, h2⟩, h3⟩
  · exact ⟨h2, h3⟩
  · exact absurd (h1.symm.trans hb) (by decide)
theorem inum_no (a : List UInt8) (w : World) (ha : a.length ≤ 500) (hb : numB a = false) : Calls Tryz.prog 33 #[.string (ByteArray.mk a.toArray)] w fun e w' => e = .panicked [{ v := thrown wNo, recovered := false }] ∧ w = w' := by
  refine (inum_any (ByteArray.mk a.toArray) w (by show a.toArray.size ≤ 500; simpa using ha)).mono ?_
  rintro e w' ⟨⟨h1, h2⟩ | ⟨h1, h2⟩, h3⟩
  · exact absurd (h1.symm.trans hb) (by decide)
  · exact ⟨h2, h3⟩
theorem cmdW_inj {j k : Nat} (hj : j < 6) (hk : k < 6) (h : cmdW j = cmdW k) : j = k := by
  rcases (show j = 0 ∨ j = 1 ∨ j = 2 ∨ j = 3 ∨ j = 4 ∨ j = 5 by omega) with e | e | e | e | e | e <;> subst e <;>
    rcases (show k = 0 ∨ k = 1 ∨ k = 2 ∨ k = 3 ∨ k = 4 ∨ k = 5 by omega) with e | e | e | e | e | e <;> subst e <;> first | rfl | exact absurd h (by decide)
theorem icmd_hit (k : Nat) (hk : k < 6) (x : List UInt8) (n cw : Nat) (Aw : Option Addr) (xs : List Value) (w : World) (hw : Sl w w.heap.size 1 Aw n (sV x :: xs)) (hn : 1 ≤ n) (hn2 : n ≤ 1000) (hx : x = cmdW k) (hnn : (n : Int) - 1 = cmdN k) :
    Calls Tryz.prog 32 #[.slice Aw n cw] w fun e w' => e = .returned (cmdV k) ∧ Below w.heap.size w w' := by
  refine (icmd_any x n cw Aw xs w hw hn hn2).mono ?_
  rintro e w' ⟨⟨j, hj, hxj, -, he⟩ | ⟨hno, -⟩, hb⟩
  · rw [cmdW_inj hj hk (hxj.symm.trans hx)] at he
    exact ⟨he, hb⟩
  · exact absurd ⟨hx, hnn⟩ (hno k hk)
theorem icmd_miss (x : List UInt8) (n cw : Nat) (Aw : Option Addr) (xs : List Value) (w : World) (hw : Sl w w.heap.size 1 Aw n (sV x :: xs)) (hn : 1 ≤ n) (hn2 : n ≤ 1000) (hno : ∀ k, k < 6 → ¬ (x = cmdW k ∧ (n : Int) - 1 = cmdN k)) :
    Calls Tryz.prog 32 #[.slice Aw n cw] w fun e w' => e = .panicked [{ v := thrown wWhat, recovered := false }] ∧ Below w.heap.size w w' := by
  refine (icmd_any x n cw Aw xs w hw hn hn2).mono ?_
  rintro e w' ⟨⟨j, hj, hxj, hnj, he⟩ | ⟨-, he⟩, hb⟩
  · exact absurd ⟨hxj, hnj⟩ (hno j hj)
  · exact ⟨he, hb⟩
theorem int_info2 : (Tryz.prog.info? 3).map (fun i => (i.zero, i.size, i.bytes)) = some (some (.int .i64 0), 1, 8) := by kernel_rfl

set_option maxHeartbeats 1000000 in
theorem iline_miss (s : Sc) (g : Nat) (t : ByteArray) (w : World) (h : MQ s g w) (ht : TB w) (hok : scOk s) (htz : t.size ≤ 500) (x : List UInt8) (ys : List (List UInt8)) (hsp : splitL 32 t.data.toList = x :: ys) (hmiss : ∀ k, k < 6 → ¬ (x = cmdW k ∧ (ys.length : Int) = cmdN k)) :
    Calls Tryz.prog 22 #[.pointer (some ⟨g, 0, none⟩), .string t] w (MRet (lineS s t.data.toList) g w) := by
  have hl := byte_len t
  have hsl := splitL_len 32 t.data.toList
  have hmem : ∀ y, y ∈ splitL 32 t.data.toList → y.length ≤ 500 := fun y hy => by have := splitL_mem hy; omega
  have HSP := Lib.hid (fun w => split_any t 32 w htz)
  have HMISS := Lib.hid (fun hq (W : World) (hb : Below w.heap.size w W) => (show MRet (lineS s t.data.toList) g w (.returned (.string ⟨wWhat.toArray⟩)) W by rw [lineS_miss hsp hq]; exact mret_same h hb))
  have HNUM := Lib.hid (fun (k : Nat) (y : List UInt8) (hk : k < 6) (hx : x = cmdW k) hn hy hb (W : World) (hbl : Below w.heap.size w W) => (show MRet (lineS s t.data.toList) g w (.returned (.string ⟨wNo.toArray⟩)) W by rw [lineS_num (y := y) hsp hk hx hn hy hb]; exact mret_same h hbl))
  have HRUN := Lib.hid (fun (k : Nat) (hk : k < 6) (hx : x = cmdW k) hn hb => lineS_run (s := s) hsp hk hx hn hb)
  rw [hsp] at HSP hsl hmem
  have HMQ := Lib.hid h
  have HTB := Lib.hid ht
  have hgl := h.lt
  generalize hR : MRet (lineS s t.data.toList) g w = R at *
  have HR := Lib.hid hR
  clear hR h ht hsp
  obtain ⟨m, hm⟩ : ∃ m, (x :: ys).length = m := ⟨_, rfl⟩
  rw [hm] at HSP hsl
  have HM1 := Lib.hid (show m = ys.length + 1 by rw [← hm]; simp)
  have hm1 : 1 ≤ m := by have := HM1.out; omega
  have hm501 : m ≤ 501 := by omega
  have HMM := Lib.hid hm
  clear hm
  have hAns := (Bk.new w 9 #[.string ⟨#[]⟩]).alloc (.cells ((x :: ys).map sV).toArray 9)
  have hWd := bk_new1 w (.cells #[.string ⟨#[]⟩] 9) 9 ((x :: ys).map sV).toArray
  have hB1 : Below w.heap.size w ((w.alloc (.cells #[.string ⟨#[]⟩] 9)).alloc (.cells ((x :: ys).map sV).toArray 9)) := (by repeat (first | exact Below.refl _ _ | assumption | refine Below.setCell ?_ (by first | omega | (simp; done) | (simp; omega)) _ | refine Below.alloc ?_ (by first | omega | (simp; done) | (simp; omega)) _ | refine Below.drew ?_ | refine Below.drewN' ?_ _ | refine Below.trans ?_ (Below.mono (by assumption) (by first | omega | (simp; done) | (simp; omega)))))
  have hmf : ∀ (fn : Fn) (first cap : Array Value) (w : World), (Instr.makeFunc fn first cap).run Tryz.prog w = .ok (.func fn first cap) w := fun _ _ _ _ => rfl
  go_enter_defers Tryz.func22, Tryz.ntmps22
  go_wp2_with fail
  refine (HSP.out _).mono ?_
  rintro e w1 ⟨rfl, rfl⟩
  generalize ((w.alloc (.cells #[.string ⟨#[]⟩] 9)).alloc (.cells ((x :: ys).map sV).toArray 9)) = W1 at *
  have hSl : Sl W1 W1.heap.size 1 (some ⟨w.heap.size + 1, 0, none⟩) m (sV x :: ys.map sV) := ⟨by rw [← HMM.out]; simp, fun _ => ⟨_, 0, rfl, hWd.lt, fun j u hu => by rw [Nat.zero_add, hWd.cell j]; simpa using hu⟩⟩
  have HB1 := Lib.hid hB1
  have HAns := Lib.hid hAns
  have HWd := Lib.hid hWd
  have hBs1 := hB1.size
  clear hB1 hAns hWd
  have HCM := Lib.hid (icmd_miss x m m (some ⟨w.heap.size + 1, 0, none⟩) (ys.map sV) W1 hSl (by omega) (by omega) (fun k hk hh => hmiss k hk ⟨hh.1, by have := HM1.out; omega⟩))
  have HM2 := Lib.hid (HMISS.out hmiss)
  clear hmiss HMISS HNUM HRUN hSl
  go_wp2_with (go_at_call 32; refine HCM.out.mono ?_; rintro e w2 ⟨rfl, hb2⟩)
  have hA2 := HAns.out.below hb2 HAns.out.lt
  have hB2 := HB1.out.trans (hb2.mono hBs1)
  refine leaves_cons (f := 31) (args := #[.pointer (some ⟨w.heap.size, 0, none⟩)]) (by simp) (by simp [go_sem]) ?_
  refine (line1_panic w.heap.size _ wWhat w2 hA2).mono ?_
  rintro e u' w'' ⟨rfl, rfl, rfl⟩
  simp [Leaves, settle, results, Tryz.results22, go_sem]
  have hA3 := (hA2.set_ 0 (.string ⟨wWhat.toArray⟩)).alloc (.cells #[.string ⟨wWhat.toArray⟩] 60)
  have hc3 := hA3.cell 0
  simp only [List.setIfInBounds_toArray, List.set_cons_zero, List.getElem?_toArray, List.getElem?_cons_zero] at hc3
  exact ⟨.string ⟨wWhat.toArray⟩, by rw [hc3], HM2.out _ (by repeat (first | with_reducible exact hB2 | with_reducible exact hB2.size | with_reducible refine Below.setCell ?_ ?_ _ | with_reducible refine Below.alloc ?_ ?_ _ | with_reducible exact Nat.le_refl _ | with_reducible refine le_set ?_))⟩

set_option maxHeartbeats 1000000 in
theorem iline_hit2 (s : Sc) (g : Nat) (t : ByteArray) (w : World) (h : MQ s g w) (ht : TB w) (hok : scOk s) (htz : t.size ≤ 500) (x : List UInt8) (ys : List (List UInt8)) (hsp : splitL 32 t.data.toList = x :: ys) (k : Nat) (hk : k < 6) (hx : x = cmdW k) (hn : (ys.length : Int) = cmdN k) (hy : ys ≠ []) :
    Calls Tryz.prog 22 #[.pointer (some ⟨g, 0, none⟩), .string t] w (MRet (lineS s t.data.toList) g w) := by
  have hl := byte_len t
  have hsl := splitL_len 32 t.data.toList
  have hmem : ∀ y, y ∈ splitL 32 t.data.toList → y.length ≤ 500 := fun y hy => by have := splitL_mem hy; omega
  have HSP := Lib.hid (fun w => split_any t 32 w htz)
  have HMISS := Lib.hid (fun hq (W : World) (hb : Below w.heap.size w W) => (show MRet (lineS s t.data.toList) g w (.returned (.string ⟨wWhat.toArray⟩)) W by rw [lineS_miss hsp hq]; exact mret_same h hb))
  have HNUM := Lib.hid (fun (k : Nat) (y : List UInt8) (hk : k < 6) (hx : x = cmdW k) hn hy hb (W : World) (hbl : Below w.heap.size w W) => (show MRet (lineS s t.data.toList) g w (.returned (.string ⟨wNo.toArray⟩)) W by rw [lineS_num (y := y) hsp hk hx hn hy hb]; exact mret_same h hbl))
  have HRUN := Lib.hid (fun (k : Nat) (hk : k < 6) (hx : x = cmdW k) hn hb => lineS_run (s := s) hsp hk hx hn hb)
  rw [hsp] at HSP hsl hmem
  have HMQ := Lib.hid h
  have HTB := Lib.hid ht
  have hgl := h.lt
  generalize hR : MRet (lineS s t.data.toList) g w = R at *
  have HR := Lib.hid hR
  clear hR h ht hsp
  obtain ⟨m, hm⟩ : ∃ m, (x :: ys).length = m := ⟨_, rfl⟩
  rw [hm] at HSP hsl
  have HM1 := Lib.hid (show m = ys.length + 1 by rw [← hm]; simp)
  have hm1 : 1 ≤ m := by have := HM1.out; omega
  have hm501 : m ≤ 501 := by omega
  have HMM := Lib.hid hm
  clear hm
  have hAns := (Bk.new w 9 #[.string ⟨#[]⟩]).alloc (.cells ((x :: ys).map sV).toArray 9)
  have hWd := bk_new1 w (.cells #[.string ⟨#[]⟩] 9) 9 ((x :: ys).map sV).toArray
  have hB1 : Below w.heap.size w ((w.alloc (.cells #[.string ⟨#[]⟩] 9)).alloc (.cells ((x :: ys).map sV).toArray 9)) := (by repeat (first | exact Below.refl _ _ | assumption | refine Below.setCell ?_ (by first | omega | (simp; done) | (simp; omega)) _ | refine Below.alloc ?_ (by first | omega | (simp; done) | (simp; omega)) _ | refine Below.drew ?_ | refine Below.drewN' ?_ _ | refine Below.trans ?_ (Below.mono (by assumption) (by first | omega | (simp; done) | (simp; omega)))))
  have hmf : ∀ (fn : Fn) (first cap : Array Value) (w : World), (Instr.makeFunc fn first cap).run Tryz.prog w = .ok (.func fn first cap) w := fun _ _ _ _ => rfl
  go_enter_defers Tryz.func22, Tryz.ntmps22
  go_wp2_with fail
  refine (HSP.out _).mono ?_
  rintro e w1 ⟨rfl, rfl⟩
  generalize ((w.alloc (.cells #[.string ⟨#[]⟩] 9)).alloc (.cells ((x :: ys).map sV).toArray 9)) = W1 at *
  have hSl : Sl W1 W1.heap.size 1 (some ⟨w.heap.size + 1, 0, none⟩) m (sV x :: ys.map sV) := ⟨by rw [← HMM.out]; simp, fun _ => ⟨_, 0, rfl, hWd.lt, fun j u hu => by rw [Nat.zero_add, hWd.cell j]; simpa using hu⟩⟩
  have HB1 := Lib.hid hB1
  have HAns := Lib.hid hAns
  have HWd := Lib.hid hWd
  have hBs1 := hB1.size
  clear hB1 hAns hWd
  have hme : ¬ m = 1 := by
    have := HM1.out
    intro e
    exact hy (List.length_eq_zero_iff.1 (by omega))
  clear hy
  have HCM := Lib.hid (icmd_hit k hk x m m (some ⟨w.heap.size + 1, 0, none⟩) (ys.map sV) W1 hSl (by omega) (by omega) hx (by have := HM1.out; omega))
  have HN2 := Lib.hid (fun (y : List UInt8) hy hb => HNUM.out k y hk hx hn hy hb)
  have HR2 := Lib.hid (fun hb => HRUN.out k hk hx hn hb)
  have ef := fn_enters k hk
  have hnn : (m : Int) - 1 = cmdN k := by have := HM1.out; omega
  have HRA := Lib.hid (fun (An : Option Addr) (n cn : Nat) (zs : List Int) (w : World) h1 h2 h3 (h4 : (n : Int) = cmdN k) => run_any k hk s g An n cn zs w h1 h2 hok h3 h4)
  unfold MRet at HRA
  unfold cmdV at HCM
  generalize cmdW k = wk at *
  generalize runC k s = rk at *
  generalize cmdN k = nk at *
  generalize cmdF k = fk at *
  have HNN := Lib.hid hnn
  obtain ⟨i0, hi0, hz0, hz1, hz2⟩ := info_parts int_info2
  clear HMISS HNUM HRUN hSl hx hn hk hnn
  go_wp2_with (go_at_call 32; refine HCM.out.mono ?_; rintro e w2 ⟨rfl, hb2⟩)
  have hA2 := HAns.out.below hb2 HAns.out.lt
  have hW2 := HWd.out.below hb2 HWd.out.lt
  have hB2 := HB1.out.trans (hb2.mono hBs1)
  have hB3 : Below w.heap.size w ((w2.alloc (.cells #[.string ⟨wk.toArray⟩, .int .i64 nk, .func (.func fk) #[] #[]] 63)).alloc (.cells #[] 3)) := (hB2.alloc hB2.size _).alloc (by have := hB2.size; simp; omega) _
  have hA3 := (hA2.alloc (.cells #[.string ⟨wk.toArray⟩, .int .i64 nk, .func (.func fk) #[] #[]] 63)).alloc (.cells #[] 3)
  have hW3 := (hW2.alloc (.cells #[.string ⟨wk.toArray⟩, .int .i64 nk, .func (.func fk) #[] #[]] 63)).alloc (.cells #[] 3)
  have hC3 := (Bk.new w2 63 #[.string ⟨wk.toArray⟩, .int .i64 nk, .func (.func fk) #[] #[]]).alloc (.cells #[] 3)
  have hrow := own_empty (w2.alloc (.cells #[.string ⟨wk.toArray⟩, .int .i64 nk, .func (.func fk) #[] #[]] 63)) (w2.heap.size + 1) 3 1 (by simp)
  rw [size1] at hrow
  have hA2l := hA2.lt
  have hW2l := hW2.lt
  have hw3s : w2.heap.size + 1 < (((w2.alloc (.cells #[.string ⟨wk.toArray⟩, .int .i64 nk, .func (.func fk) #[] #[]] 63)).alloc (.cells #[] 3))).heap.size := by simp
  generalize ((w2.alloc (.cells #[.string ⟨wk.toArray⟩, .int .i64 nk, .func (.func fk) #[] #[]] 63)).alloc (.cells #[] 3)) = w3 at *
  clear hb2 hA2 hW2 hB2
  have HRW := Lib.hid hrow
  have HA3 := Lib.hid hA3
  have HW3 := Lib.hid hW3
  have HC3 := Lib.hid hC3
  have HB3 := Lib.hid hB3
  clear hrow hA3 hW3 hC3 hB3 HCM HAns HWd HB1
  go_loopw [7, 19] (fun v i wr => ∃ j : Nat, j ≤ m - 1 ∧ i = .int .i64 j ∧ Hid (∀ y, y ∈ ys.take j → numB y = true) ∧ Hid (wr.ownsRow (w2.heap.size + 1) 3 1 v j (((ys.take j).map valL).map (Value.int .i64))) ∧ Hid (Below (w2.heap.size + 1) w3 wr)) (fun _ i _ => (m - 1) - (intOf i).toNat)
  case atStart => exact ⟨0, by omega, rfl, Lib.hid (fun y hy => absurd hy (by simp)), Lib.hid HRW.out, Lib.hid (Below.refl _ _)⟩
  case round =>
    obtain ⟨j, hj, rfl, hnb, how, hBr⟩ := hrel
    have hBrs := hBr.out.size
    have HBw := Lib.hid (show Below w.heap.size w _ from HB3.out.trans (hBr.out.mono (by omega)))
    have hAr := HA3.out.below hBr.out (by omega)
    have hWr := HW3.out.below hBr.out (by omega)
    have hCr := HC3.out.below hBr.out (by omega)
    by_cases hlt : j < m - 1
    · obtain ⟨y, hy⟩ : ∃ y, ys[j]? = some y := ⟨_, List.getElem?_eq_getElem (by have := HM1.out; omega)⟩
      have hym : y ∈ ys := List.mem_of_getElem? hy
      have hyl := hmem y (by simp [hym])
      have hcy : wr.cell? ⟨w.heap.size + 1, 1 + j, none⟩ = some (.string ⟨y.toArray⟩) := (hWr.cell (1 + j)).trans (by rw [Nat.add_comm]; simp [hy, sV])
      have htk : ys.take (j + 1) = ys.take j ++ [y] := by rw [List.take_add_one, hy]; rfl
      by_cases hb : numB y = true
      · have hv := valL_bd hb
        have HNY := Lib.hid (fun w => inum_yes y w hyl hb)
        have hnb2 := Lib.hid (show ∀ y', y' ∈ ys.take (j + 1) → numB y' = true by
          intro y' h'
          rw [htk] at h'
          rcases List.mem_append.1 h' with h1 | h1
          · exact hnb.out y' h1
          · simp at h1; rw [h1]; exact hb)
        have HTK := Lib.hid htk
        have HNX := Lib.hid (fun (wr : World) => (show Sl (wr.alloc (.cells #[.int .i64 (valL y)] 3)) (wr.heap.size + 1) 1 (some ⟨wr.heap.size, 0, none⟩) 1 [.int .i64 (valL y)] from ⟨rfl, fun _ => ⟨wr.heap.size, 0, rfl, Nat.lt_succ_self _, fun j u hu => by rw [Nat.zero_add, (Bk.new wr _ _).cell j]; simpa using hu⟩⟩))
        clear hb hnb htk hy hym hAr hWr hCr HRA HR2 HN2
        go_wp2_with (first | (go_at_call 33; refine (HNY.out _).mono ?_; rintro e w4 ⟨rfl, rfl⟩) | (at_builtin; refine wpList_app _ rfl _ _ 65 rfl (w2.heap.size + 1) 3 i0 (.int .i64 0) 1 8 Tryz.underlying65 hi0 hz0 hz1 hz2 rfl (by omega) _ j _ rfl (how.out.alloc _) (wr.heap.size + 1) (some ⟨wr.heap.size, 0, none⟩) 1 1 _ rfl (HNX.out wr) (by intro u hu; simp at hu; subst hu; rfl) (by unfold maxLen; omega) (by omega) (by simp; omega) ?_; intro v2 w5 hown2 hgrow hat))
        go_roundw
        case rel => exact ⟨j + 1, by omega, by go_num, hnb2, Lib.hid (by rw [HTK.out, List.map_append, List.map_append]; exact hown2), Lib.hid (Below.grown_own (hBr.out.alloc (by omega) _) hgrow (how.out.alloc _) (Nat.le_refl _) (by simp; omega))⟩
        case measure => simp [intOf]; omega
      · have hb2 : numB y = false := by simpa using hb
        have HNO := Lib.hid (fun w => inum_no y w hyl hb2)
        have HM2 := Lib.hid (HN2.out y hym hb2)
        have HA2 := Lib.hid hAr
        clear hb hb2 hnb htk hy hym hAr hWr hCr HRA HR2 HN2 how
        go_wp2_with (go_at_call 33; refine (HNO.out _).mono ?_; rintro e w4 ⟨rfl, rfl⟩)
        have hA2 := HA2.out
        have hB2 := HBw.out
        refine leaves_cons (f := 31) (args := #[.pointer (some ⟨w.heap.size, 0, none⟩)]) (by simp) (by simp [go_sem]) ?_
        refine (line1_panic w.heap.size _ wNo _ hA2).mono ?_
        rintro e u' w'' ⟨rfl, rfl, rfl⟩
        simp [Leaves, settle, results, Tryz.results22, go_sem]
        have hA3 := (hA2.set_ 0 (.string ⟨wNo.toArray⟩)).alloc (.cells #[.string ⟨wNo.toArray⟩] 60)
        have hc3 := hA3.cell 0
        simp only [List.setIfInBounds_toArray, List.set_cons_zero, List.getElem?_toArray, List.getElem?_cons_zero] at hc3
        exact ⟨.string ⟨wNo.toArray⟩, by rw [hc3], HM2.out _ (by repeat (first | with_reducible exact hB2 | with_reducible exact hB2.size | with_reducible refine Below.setCell ?_ ?_ _ | with_reducible refine Below.alloc ?_ ?_ _ | with_reducible exact Nat.le_refl _ | with_reducible refine le_set ?_))⟩
    · have hj' : j = m - 1 := by omega
      obtain ⟨A, c, rfl, h1, h2, h3⟩ := own_shape how.out
      have hyt : ys.take j = ys := List.take_of_length_le (by have := HM1.out; omega)
      have HI := Lib.hid (show Ints _ _ A j (ys.map valL) by rw [← hyt]; exact h3)
      have HNB := Lib.hid (show ∀ y, y ∈ ys → numB y = true by rw [← hyt]; exact hnb.out)
      have HRR := Lib.hid (HRA.out A j c (ys.map valL) _ (HMQ.out.below (HBw.out)) (HTB.out.below (HBw.out)) HI.out (by have := HNN.out; omega))
      have hgw : w.heap.size ≠ g := by omega
      have HAR := Lib.hid hAr
      generalize rk (ys.map valL) = r at *
      obtain ⟨s2, o2⟩ := r
      have HF := Lib.hid (fun (w5 : World) (hq : MQ s2 g w5) (ho : Only g _ w5) (hA5 : Bk w5 w.heap.size 9 #[.string ⟨#[]⟩]) => (show R (.returned (.string ⟨o2.toArray⟩)) (w5.setCell ⟨w.heap.size, 0, none⟩ (.string ⟨o2.toArray⟩)) by rw [← HR.out, HR2.out HNB.out]; exact ⟨rfl, hq.far hA5 (by simp) (But.setCell (X := fun k => k = w.heap.size) (a := w5) (b := w5) (p := ⟨w.heap.size, 0, none⟩) (But.refl _ _) (Or.inl rfl) _), ((Only.of_below HBw.out).trans ho).setCell (Or.inr (Nat.le_refl _)) _⟩))
      simp only at HRR
      clear HNB HI HR2 h3 how hj'
      (try clear hAr_c0); (try clear hAr_f0)
      (try clear hAr_lt)
      have hAr_lt := hAr.lt; (try simp only [World.size_alloc] at hAr_lt)
      have hAr_c0 := hAr.cell 0; have hAr_f0 := hAr.frozen 0
      simp only [List.getElem?_toArray, List.getElem?_cons_zero, List.getElem?_cons_succ] at hAr_c0
      (try clear hCr_c0); (try clear hCr_f0)
      (try clear hCr_c1); (try clear hCr_f1)
      (try clear hCr_c2); (try clear hCr_f2)
      (try clear hCr_lt)
      have hCr_lt := hCr.lt; (try simp only [World.size_alloc] at hCr_lt)
      have hCr_c0 := hCr.cell 0; have hCr_f0 := hCr.frozen 0
      have hCr_c1 := hCr.cell 1; have hCr_f1 := hCr.frozen 1
      have hCr_c2 := hCr.cell 2; have hCr_f2 := hCr.frozen 2
      simp only [List.getElem?_toArray, List.getElem?_cons_zero, List.getElem?_cons_succ] at hCr_c0 hCr_c1 hCr_c2
      go_wp2_with (go_at_fn fk; refine HRR.out.mono ?_; rintro e w5 ⟨rfl, hq, ho⟩; have hA5 := HAR.out.only ho hgw; have hA5_lt := hA5.lt; have hA5_c0 := hA5.cell 0; have hA5_f0 := hA5.frozen 0; simp only [List.getElem?_toArray, List.getElem?_cons_zero] at hA5_c0)
      refine leaves_cons (f := 31) (args := #[.pointer (some ⟨w.heap.size, 0, none⟩)]) (by simp) (by simp [go_sem]) ?_
      refine (line1_idle ⟨w.heap.size, 0, none⟩ _).mono ?_
      rintro e u' w'' ⟨rfl, rfl, rfl⟩
      have hc7 := (hA5.set_ 0 (.string ⟨o2.toArray⟩)).cell 0
      simp only [List.setIfInBounds_toArray, List.set_cons_zero, List.getElem?_toArray, List.getElem?_cons_zero] at hc7
      simp [Leaves, settle, results, Tryz.results22, go_sem]
      exact ⟨.string ⟨o2.toArray⟩, by rw [hc7], HF.out w5 hq ho hA5⟩

set_option maxHeartbeats 1000000 in
theorem iline_hit0 (s : Sc) (g : Nat) (t : ByteArray) (w : World) (h : MQ s g w) (ht : TB w) (hok : scOk s) (htz : t.size ≤ 500) (x : List UInt8) (ys : List (List UInt8)) (hsp : splitL 32 t.data.toList = x :: ys) (k : Nat) (hk : k < 6) (hx : x = cmdW k) (hn : (ys.length : Int) = cmdN k) (hy : ys = []) :
    Calls Tryz.prog 22 #[.pointer (some ⟨g, 0, none⟩), .string t] w (MRet (lineS s t.data.toList) g w) := by
  have hl := byte_len t
  have hsl := splitL_len 32 t.data.toList
  have hmem : ∀ y, y ∈ splitL 32 t.data.toList → y.length ≤ 500 := fun y hy => by have := splitL_mem hy; omega
  have HSP := Lib.hid (fun w => split_any t 32 w htz)
  have HMISS := Lib.hid (fun hq (W : World) (hb : Below w.heap.size w W) => (show MRet (lineS s t.data.toList) g w (.returned (.string ⟨wWhat.toArray⟩)) W by rw [lineS_miss hsp hq]; exact mret_same h hb))
  have HNUM := Lib.hid (fun (k : Nat) (y : List UInt8) (hk : k < 6) (hx : x = cmdW k) hn hy hb (W : World) (hbl : Below w.heap.size w W) => (show MRet (lineS s t.data.toList) g w (.returned (.string ⟨wNo.toArray⟩)) W by rw [lineS_num (y := y) hsp hk hx hn hy hb]; exact mret_same h hbl))
  have HRUN := Lib.hid (fun (k : Nat) (hk : k < 6) (hx : x = cmdW k) hn hb => lineS_run (s := s) hsp hk hx hn hb)
  rw [hsp] at HSP hsl hmem
  have HMQ := Lib.hid h
  have HTB := Lib.hid ht
  have hgl := h.lt
  generalize hR : MRet (lineS s t.data.toList) g w = R at *
  have HR := Lib.hid hR
  clear hR h ht hsp
  obtain ⟨m, hm⟩ : ∃ m, (x :: ys).length = m := ⟨_, rfl⟩
  rw [hm] at HSP hsl
  have HM1 := Lib.hid (show m = ys.length + 1 by rw [← hm]; simp)
  have hm1 : 1 ≤ m := by have := HM1.out; omega
  have hm501 : m ≤ 501 := by omega
  have HMM := Lib.hid hm
  clear hm
  have hAns := (Bk.new w 9 #[.string ⟨#[]⟩]).alloc (.cells ((x :: ys).map sV).toArray 9)
  have hWd := bk_new1 w (.cells #[.string ⟨#[]⟩] 9) 9 ((x :: ys).map sV).toArray
  have hB1 : Below w.heap.size w ((w.alloc (.cells #[.string ⟨#[]⟩] 9)).alloc (.cells ((x :: ys).map sV).toArray 9)) := (by repeat (first | exact Below.refl _ _ | assumption | refine Below.setCell ?_ (by first | omega | (simp; done) | (simp; omega)) _ | refine Below.alloc ?_ (by first | omega | (simp; done) | (simp; omega)) _ | refine Below.drew ?_ | refine Below.drewN' ?_ _ | refine Below.trans ?_ (Below.mono (by assumption) (by first | omega | (simp; done) | (simp; omega)))))
  have hmf : ∀ (fn : Fn) (first cap : Array Value) (w : World), (Instr.makeFunc fn first cap).run Tryz.prog w = .ok (.func fn first cap) w := fun _ _ _ _ => rfl
  go_enter_defers Tryz.func22, Tryz.ntmps22
  go_wp2_with fail
  refine (HSP.out _).mono ?_
  rintro e w1 ⟨rfl, rfl⟩
  generalize ((w.alloc (.cells #[.string ⟨#[]⟩] 9)).alloc (.cells ((x :: ys).map sV).toArray 9)) = W1 at *
  have hSl : Sl W1 W1.heap.size 1 (some ⟨w.heap.size + 1, 0, none⟩) m (sV x :: ys.map sV) := ⟨by rw [← HMM.out]; simp, fun _ => ⟨_, 0, rfl, hWd.lt, fun j u hu => by rw [Nat.zero_add, hWd.cell j]; simpa using hu⟩⟩
  have HB1 := Lib.hid hB1
  have HAns := Lib.hid hAns
  have HWd := Lib.hid hWd
  have hBs1 := hB1.size
  clear hB1 hAns hWd
  obtain rfl : m = 1 := by
    have := HM1.out
    rw [hy] at this
    simpa using this
  clear hy
  have HCM := Lib.hid (icmd_hit k hk x 1 1 (some ⟨w.heap.size + 1, 0, none⟩) (ys.map sV) W1 hSl (by omega) (by omega) hx (by have := HM1.out; omega))
  have HN2 := Lib.hid (fun (y : List UInt8) hy hb => HNUM.out k y hk hx hn hy hb)
  have HR2 := Lib.hid (fun hb => HRUN.out k hk hx hn hb)
  have ef := fn_enters k hk
  have hnn : (1 : Int) - 1 = cmdN k := by have := HM1.out; omega
  have HRA := Lib.hid (fun (An : Option Addr) (n cn : Nat) (zs : List Int) (w : World) h1 h2 h3 (h4 : (n : Int) = cmdN k) => run_any k hk s g An n cn zs w h1 h2 hok h3 h4)
  unfold MRet at HRA
  unfold cmdV at HCM
  generalize cmdW k = wk at *
  generalize runC k s = rk at *
  generalize cmdN k = nk at *
  generalize cmdF k = fk at *
  have HNN := Lib.hid hnn
  obtain ⟨i0, hi0, hz0, hz1, hz2⟩ := info_parts int_info2
  clear HMISS HNUM HRUN hSl hx hn hk hnn
  go_wp2_with (go_at_call 32; refine HCM.out.mono ?_; rintro e w2 ⟨rfl, hb2⟩)
  have hA2 := HAns.out.below hb2 HAns.out.lt
  have hW2 := HWd.out.below hb2 HWd.out.lt
  have hB2 := HB1.out.trans (hb2.mono hBs1)
  have hB3 : Below w.heap.size w ((w2.alloc (.cells #[.string ⟨wk.toArray⟩, .int .i64 nk, .func (.func fk) #[] #[]] 63)).alloc (.cells #[] 3)) := (hB2.alloc hB2.size _).alloc (by have := hB2.size; simp; omega) _
  have hA3 := (hA2.alloc (.cells #[.string ⟨wk.toArray⟩, .int .i64 nk, .func (.func fk) #[] #[]] 63)).alloc (.cells #[] 3)
  have hW3 := (hW2.alloc (.cells #[.string ⟨wk.toArray⟩, .int .i64 nk, .func (.func fk) #[] #[]] 63)).alloc (.cells #[] 3)
  have hC3 := (Bk.new w2 63 #[.string ⟨wk.toArray⟩, .int .i64 nk, .func (.func fk) #[] #[]]).alloc (.cells #[] 3)
  have hrow := own_empty (w2.alloc (.cells #[.string ⟨wk.toArray⟩, .int .i64 nk, .func (.func fk) #[] #[]] 63)) (w2.heap.size + 1) 3 1 (by simp)
  rw [size1] at hrow
  have hA2l := hA2.lt
  have hW2l := hW2.lt
  have hw3s : w2.heap.size + 1 < (((w2.alloc (.cells #[.string ⟨wk.toArray⟩, .int .i64 nk, .func (.func fk) #[] #[]] 63)).alloc (.cells #[] 3))).heap.size := by simp
  generalize ((w2.alloc (.cells #[.string ⟨wk.toArray⟩, .int .i64 nk, .func (.func fk) #[] #[]] 63)).alloc (.cells #[] 3)) = w3 at *
  clear hb2 hA2 hW2 hB2
  have HRW := Lib.hid hrow
  have HA3 := Lib.hid hA3
  have HW3 := Lib.hid hW3
  have HC3 := Lib.hid hC3
  have HB3 := Lib.hid hB3
  clear hrow hA3 hW3 hC3 hB3 HCM HAns HWd HB1
  go_loopw [7, 19] (fun v i wr => ∃ j : Nat, j ≤ 1 - 1 ∧ i = .int .i64 j ∧ Hid (∀ y, y ∈ ys.take j → numB y = true) ∧ Hid (wr.ownsRow (w2.heap.size + 1) 3 1 v j (((ys.take j).map valL).map (Value.int .i64))) ∧ Hid (Below (w2.heap.size + 1) w3 wr)) (fun _ i _ => (1 - 1) - (intOf i).toNat)
  case atStart => exact ⟨0, by omega, rfl, Lib.hid (fun y hy => absurd hy (by simp)), Lib.hid HRW.out, Lib.hid (Below.refl _ _)⟩
  case round =>
    obtain ⟨j, hj, rfl, hnb, how, hBr⟩ := hrel
    have hBrs := hBr.out.size
    have HBw := Lib.hid (show Below w.heap.size w _ from HB3.out.trans (hBr.out.mono (by omega)))
    have hAr := HA3.out.below hBr.out (by omega)
    have hWr := HW3.out.below hBr.out (by omega)
    have hCr := HC3.out.below hBr.out (by omega)
    by_cases hlt : j < 1 - 1
    · exact absurd hlt (by omega)
    · have hj' : j = 1 - 1 := by omega
      obtain ⟨A, c, rfl, h1, h2, h3⟩ := own_shape how.out
      have hyt : ys.take j = ys := List.take_of_length_le (by have := HM1.out; omega)
      have HI := Lib.hid (show Ints _ _ A j (ys.map valL) by rw [← hyt]; exact h3)
      have HNB := Lib.hid (show ∀ y, y ∈ ys → numB y = true by rw [← hyt]; exact hnb.out)
      have HRR := Lib.hid (HRA.out A j c (ys.map valL) _ (HMQ.out.below (HBw.out)) (HTB.out.below (HBw.out)) HI.out (by have := HNN.out; omega))
      have hgw : w.heap.size ≠ g := by omega
      have HAR := Lib.hid hAr
      generalize rk (ys.map valL) = r at *
      obtain ⟨s2, o2⟩ := r
      have HF := Lib.hid (fun (w5 : World) (hq : MQ s2 g w5) (ho : Only g _ w5) (hA5 : Bk w5 w.heap.size 9 #[.string ⟨#[]⟩]) => (show R (.returned (.string ⟨o2.toArray⟩)) (w5.setCell ⟨w.heap.size, 0, none⟩ (.string ⟨o2.toArray⟩)) by rw [← HR.out, HR2.out HNB.out]; exact ⟨rfl, hq.far hA5 (by simp) (But.setCell (X := fun k => k = w.heap.size) (a := w5) (b := w5) (p := ⟨w.heap.size, 0, none⟩) (But.refl _ _) (Or.inl rfl) _), ((Only.of_below HBw.out).trans ho).setCell (Or.inr (Nat.le_refl _)) _⟩))
      simp only at HRR
      clear HNB HI HR2 h3 how hj'
      (try clear hAr_c0); (try clear hAr_f0)
      (try clear hAr_lt)
      have hAr_lt := hAr.lt; (try simp only [World.size_alloc] at hAr_lt)
      have hAr_c0 := hAr.cell 0; have hAr_f0 := hAr.frozen 0
      simp only [List.getElem?_toArray, List.getElem?_cons_zero, List.getElem?_cons_succ] at hAr_c0
      (try clear hCr_c0); (try clear hCr_f0)
      (try clear hCr_c1); (try clear hCr_f1)
      (try clear hCr_c2); (try clear hCr_f2)
      (try clear hCr_lt)
      have hCr_lt := hCr.lt; (try simp only [World.size_alloc] at hCr_lt)
      have hCr_c0 := hCr.cell 0; have hCr_f0 := hCr.frozen 0
      have hCr_c1 := hCr.cell 1; have hCr_f1 := hCr.frozen 1
      have hCr_c2 := hCr.cell 2; have hCr_f2 := hCr.frozen 2
      simp only [List.getElem?_toArray, List.getElem?_cons_zero, List.getElem?_cons_succ] at hCr_c0 hCr_c1 hCr_c2
      go_wp2_with (go_at_fn fk; refine HRR.out.mono ?_; rintro e w5 ⟨rfl, hq, ho⟩; have hA5 := HAR.out.only ho hgw; have hA5_lt := hA5.lt; have hA5_c0 := hA5.cell 0; have hA5_f0 := hA5.frozen 0; simp only [List.getElem?_toArray, List.getElem?_cons_zero] at hA5_c0)
      refine leaves_cons (f := 31) (args := #[.pointer (some ⟨w.heap.size, 0, none⟩)]) (by simp) (by simp [go_sem]) ?_
      refine (line1_idle ⟨w.heap.size, 0, none⟩ _).mono ?_
      rintro e u' w'' ⟨rfl, rfl, rfl⟩
      have hc7 := (hA5.set_ 0 (.string ⟨o2.toArray⟩)).cell 0
      simp only [List.setIfInBounds_toArray, List.set_cons_zero, List.getElem?_toArray, List.getElem?_cons_zero] at hc7
      simp [Leaves, settle, results, Tryz.results22, go_sem]
      exact ⟨.string ⟨o2.toArray⟩, by rw [hc7], HF.out w5 hq ho hA5⟩

theorem iline_any (s : Sc) (g : Nat) (t : ByteArray) (w : World) (h : MQ s g w) (ht : TB w) (hok : scOk s) (htz : t.size ≤ 500) :
    Calls Tryz.prog 22 #[.pointer (some ⟨g, 0, none⟩), .string t] w (MRet (lineS s t.data.toList) g w) := by
  cases hsp : splitL 32 t.data.toList with
  | nil => exact absurd hsp (splitL_ne _ _)
  | cons x ys =>
    by_cases hq : ∃ k, k < 6 ∧ x = cmdW k ∧ (ys.length : Int) = cmdN k
    · obtain ⟨k, hk, hx, hn⟩ := hq
      by_cases hy : ys = []
      · exact iline_hit0 s g t w h ht hok htz x ys hsp k hk hx hn hy
      · exact iline_hit2 s g t w h ht hok htz x ys hsp k hk hx hn hy
    · exact iline_miss s g t w h ht hok htz x ys hsp fun k hk hh => hq ⟨k, hk, hh⟩

end Go.Proofs.YthbkmnladaneaaaGreatDoor
