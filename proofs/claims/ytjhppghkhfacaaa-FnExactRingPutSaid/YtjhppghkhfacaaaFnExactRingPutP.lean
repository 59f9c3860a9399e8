/-
  The statement FnExactRingPut: the law returns true for every input, and what was there before the call has not turned.
  No condition beyond the given statement.
-/
import Derived.Test.YtjhppghkhfacaaaRows
import Derived.WalkKit
import Derived.ProofKit
import Derived.OpenShut
import Derived.ShutString
import Derived.ChangeOld
import Derived.Below
import Derived.Test.YtjhppghkhfacaaaSeqP
import Derived.Test.YtjhppghkhfacaaaRgI
import Derived.Test.YtjhppghkhfacaaaRgX
import Derived.Test.YtjhppghkhfacaaaRgY
import Derived.Test.YtjhppghkhfacaaaRgZ
import Derived.Test.YtjhppghkhfacaaaInvD
import Derived.Test.YtjhppghkhfacaaaOpenK
namespace Go.Proofs.Ytjhppghkhfacaaa.fnExactRingPut
open Go.ChangeShapes Go.WideShapes Go.ChangeAt Go.RowKit
set_option linter.unusedVariables false
set_option linter.unusedSimpArgs false

theorem own : ownKnob Try.prog.godebug = none := by kernel_rfl
theorem laidOut : laidOutB Try.prog = true := by kernel_rfl


/-! ### STEP 1: THE WALK -/
set_option maxHeartbeats 4000000 in
set_option maxRecDepth 100000 in
theorem walk (ea cr : Int) (A : Option Addr) (n c : Nat) (xs : List Pk) (y : Pk) (w : World) (hws : Pks w w.heap.size A n xs) (hnc : n ≤ c) (hcm : c ≤ maxLen) :
    Calls Try.prog 6 #[.agg #[.int .i64 ea, .int .i64 cr, .slice A n c], .agg #[.int .i64 y.wi, .int .i64 y.ti, .int .i64 y.la, .int .i64 y.si, .bool y.ky, .bool y.en]] w fun e w' => e = .returned (.bool true) ∧ Below w.heap.size w w' := by
  obtain rfl := hws.len
  by_cases hbig : 1048576 < xs.length
  · have hnm : xs.length ≤ maxLen := by omega
    go_enter Try.func6, Try.ntmps6
    go_wp2_with fail
    refine (szRg_no ea cr A xs.length c _ hbig hnm).mono ?_
    rintro x w1 ⟨rfl, hb1⟩
    have hB1 : Below w.heap.size w w1 := (by repeat (first | exact Below.refl _ _ | assumption | refine Below.setCell ?_ (by first | omega | (simp; done) | (simp; omega)) _ | refine Below.alloc ?_ (by first | omega | (simp; done) | (simp; omega)) _ | refine Below.drew ?_ | refine Below.drewN' ?_ _ | refine Below.trans ?_ (Below.mono (by assumption) (by first | omega | (simp; done) | (simp; omega)))))
    go_wp2
    go_ret
    exact ⟨rfl, hB1⟩
  · have hn20 : xs.length ≤ 1048576 := by omega
    have hn21 : xs.length ≤ 2097152 := by omega
    have hn40 : xs.length ≤ 1099511627776 := by omega
    have e0 : decide ((1048576 : Int) - xs.length < 0) = false := by simp; omega
    have hW := Bk.new (w.alloc (.cells #[.int .i64 ea, .int .i64 cr, .slice A xs.length c] 40)) 41 #[.int .i64 y.wi, .int .i64 y.ti, .int .i64 y.la, .int .i64 y.si, .bool y.ky, .bool y.en]
    simp only [World.size_alloc] at hW
    have hP := Bk.new w 40 #[.int .i64 ea, .int .i64 cr, .slice A xs.length c]
    go_enter Try.func6, Try.ntmps6
    go_wp2_with fail
    refine (szRg_ok ea cr A xs.length c _ hn20).mono ?_
    rintro x w1 ⟨rfl, hb1⟩
    have hB1 : Below w.heap.size w w1 := (by repeat (first | exact Below.refl _ _ | assumption | refine Below.setCell ?_ (by first | omega | (simp; done) | (simp; omega)) _ | refine Below.alloc ?_ (by first | omega | (simp; done) | (simp; omega)) _ | refine Below.drew ?_ | refine Below.drewN' ?_ _ | refine Below.trans ?_ (Below.mono (by assumption) (by first | omega | (simp; done) | (simp; omega)))))
    replace hP := hP.alloc (.cells #[.int .i64 y.wi, .int .i64 y.ti, .int .i64 y.la, .int .i64 y.si, .bool y.ky, .bool y.en] 41)
    replace hP := hP.below hb1 (by first | omega | exact hP.lt | (simp; done) | (simp; omega))
    (try clear hP_c0); (try clear hP_f0)
    (try clear hP_c1); (try clear hP_f1)
    (try clear hP_c2); (try clear hP_f2)
    (try clear hP_lt)
    have hP_lt := hP.lt; (try simp only [World.size_alloc] at hP_lt)
    have hP_c0 := hP.cell 0; have hP_f0 := hP.frozen 0
    have hP_c1 := hP.cell 1; have hP_f1 := hP.frozen 1
    have hP_c2 := hP.cell 2; have hP_f2 := hP.frozen 2
    simp only [List.getElem?_toArray, List.getElem?_cons_zero, List.getElem?_cons_succ] at hP_c0 hP_c1 hP_c2
    replace hW := hW.below hb1 (by first | omega | exact hW.lt | (simp; done) | (simp; omega))
    (try clear hW_c0); (try clear hW_f0)
    (try clear hW_c1); (try clear hW_f1)
    (try clear hW_c2); (try clear hW_f2)
    (try clear hW_c3); (try clear hW_f3)
    (try clear hW_c4); (try clear hW_f4)
    (try clear hW_c5); (try clear hW_f5)
    (try clear hW_lt)
    have hW_lt := hW.lt; (try simp only [World.size_alloc] at hW_lt)
    have hW_c0 := hW.cell 0; have hW_f0 := hW.frozen 0
    have hW_c1 := hW.cell 1; have hW_f1 := hW.frozen 1
    have hW_c2 := hW.cell 2; have hW_f2 := hW.frozen 2
    have hW_c3 := hW.cell 3; have hW_f3 := hW.frozen 3
    have hW_c4 := hW.cell 4; have hW_f4 := hW.frozen 4
    have hW_c5 := hW.cell 5; have hW_f5 := hW.frozen 5
    simp only [List.getElem?_toArray, List.getElem?_cons_zero, List.getElem?_cons_succ] at hW_c0 hW_c1 hW_c2 hW_c3 hW_c4 hW_c5
    have hX : Pks w1 w.heap.size A xs.length xs := Pks.below hws hB1
    have hsw1 := hB1.size
    clear hb1 hws
    have hyl := uY_le ea cr xs y
    have hyl2 : (uY ea cr xs y).length ≤ 2097152 := by omega
    go_wp2_with fail
    refine wp_region_dep JAS JAT (fun _ => True) [] (fun _ w' => Below w1.heap.size w1 w') JAR (JA w1.heap.size ea cr A xs.length c xs y (uE ea cr xs y) (uC ea cr xs y) (uY ea cr xs y) (uB ea cr xs y)) (by kernel_rfl) (by kernel_rfl) (by kernel_rfl) (Below.drew (Below.refl _ _)) trivial (by kernel_rfl) (fun i j x v w hij hl h => JA.loc i j x v w hij (fun h9 h8 => by subst h9 h8; exact absurd (show false = true from hl.symm.trans (by kernel_rfl)) (by decide)) h) JA.mono (fun _ _ _ _ _ _ => trivial) ⟨?_, ?_, ?_, ?_, ?_, ?_, ?_, ?_, ?_, ?_, ?_, trivial⟩ ?_
    · intro m z wv hm hb hd hz
      have hq := hP.below hb hP.lt
      (try clear hq_c0); (try clear hq_f0)
      (try clear hq_c1); (try clear hq_f1)
      (try clear hq_c2); (try clear hq_f2)
      (try clear hq_lt)
      have hq_lt := hq.lt; (try simp only [World.size_alloc] at hq_lt)
      have hq_c0 := hq.cell 0; have hq_f0 := hq.frozen 0
      have hq_c1 := hq.cell 1; have hq_f1 := hq.frozen 1
      have hq_c2 := hq.cell 2; have hq_f2 := hq.frozen 2
      simp only [List.getElem?_toArray, List.getElem?_cons_zero, List.getElem?_cons_succ] at hq_c0 hq_c1 hq_c2
      have HB := Lib.hid hb
      clear hm hd hb hz
      refine ⟨?_⟩
      simp only [fill, Act.put, List.setIfInBounds_toArray, List.set_cons_zero, List.set_cons_succ]
      go_simp
      exact ⟨Below.refl _ _, HB.out, by simp [JA, upd]⟩
    · intro m z wv hm hb hd hz
      have d0 := hd { on := 0, ground := .data } (by simp) (by kernel_rfl) (by kernel_rfl)
      replace d0 : z 0 = .agg #[.int .i64 ea, .int .i64 cr, .slice A xs.length c] := d0
      have HX := Lib.hid (hX.below (hb.mono hsw1))
      have hbs := hb.size
      have hle : w.heap.size ≤ wv.heap.size := by omega
      have HB := Lib.hid hb
      clear hm hd hb hz
      refine ⟨?_⟩
      simp only [fill, Act.put, List.setIfInBounds_toArray, List.set_cons_zero, List.set_cons_succ]
      go_simp
      refine (toRg_MR ea cr A xs.length c w.heap.size xs wv HX.out hle hn21).mono ?_
      rintro e w2 ⟨g, rfl, m2, hb2⟩
      exact ⟨hb2, HB.out.trans (hb2.mono hbs), g, by simp [upd], m2.le_ hbs⟩
    · intro m z wv hm hb hd hz
      have hq := hW.below hb hW.lt
      (try clear hq_c0); (try clear hq_f0)
      (try clear hq_c1); (try clear hq_f1)
      (try clear hq_c2); (try clear hq_f2)
      (try clear hq_c3); (try clear hq_f3)
      (try clear hq_c4); (try clear hq_f4)
      (try clear hq_c5); (try clear hq_f5)
      (try clear hq_lt)
      have hq_lt := hq.lt; (try simp only [World.size_alloc] at hq_lt)
      have hq_c0 := hq.cell 0; have hq_f0 := hq.frozen 0
      have hq_c1 := hq.cell 1; have hq_f1 := hq.frozen 1
      have hq_c2 := hq.cell 2; have hq_f2 := hq.frozen 2
      have hq_c3 := hq.cell 3; have hq_f3 := hq.frozen 3
      have hq_c4 := hq.cell 4; have hq_f4 := hq.frozen 4
      have hq_c5 := hq.cell 5; have hq_f5 := hq.frozen 5
      simp only [List.getElem?_toArray, List.getElem?_cons_zero, List.getElem?_cons_succ] at hq_c0 hq_c1 hq_c2 hq_c3 hq_c4 hq_c5
      have HB := Lib.hid hb
      clear hm hd hb hz
      refine ⟨?_⟩
      simp only [fill, Act.put, List.setIfInBounds_toArray, List.set_cons_zero, List.set_cons_succ]
      go_simp
      exact ⟨Below.refl _ _, HB.out, by simp [JA, upd]⟩
    · intro m z wv hm hb hd hz
      have d2 := hd { on := 2, ground := .data } (by simp) (by kernel_rfl) (by kernel_rfl)
      replace d2 : z 2 = .agg #[.int .i64 y.wi, .int .i64 y.ti, .int .i64 y.la, .int .i64 y.si, .bool y.ky, .bool y.en] := d2
      have hbs := hb.size
      have HB := Lib.hid hb
      clear hm hd hb hz
      refine ⟨?_⟩
      simp only [fill, Act.put, List.setIfInBounds_toArray, List.set_cons_zero, List.set_cons_succ]
      go_simp
      refine (toPacket_any y wv).mono ?_
      rintro e w2 ⟨rfl, hb2⟩
      exact ⟨hb2, HB.out.trans (hb2.mono hbs), by simp [JA, upd]⟩
    · intro m z wv hm hb hd hz
      have d1 := hd { on := 1, ground := .data } (by simp) (by kernel_rfl) (by kernel_rfl)
      obtain ⟨g, d1, m2⟩ := d1
      have d3 := hd { on := 3, ground := .data } (by simp) (by kernel_rfl) (by kernel_rfl)
      replace d3 : z 3 = .agg #[.int .i64 y.wi, .int .i64 y.ti, .int .i64 y.la, .int .i64 y.si, .bool y.ky, .bool y.en] := d3
      have HM := Lib.hid m2
      clear m2
      have hbs := hb.size
      have HB := Lib.hid hb
      clear hm hd hb hz
      refine ⟨?_⟩
      simp only [fill, Act.put, List.setIfInBounds_toArray, List.set_cons_zero, List.set_cons_succ]
      go_simp
      refine (sput_all ea cr (some ⟨g, 0, none⟩) xs.length xs.length xs y wv HM.out.seq hn40 (Nat.le_refl _) (by omega)).mono ?_
      rintro e w2 ⟨A', c', g', cs', rfl, m3, hb2⟩
      exact ⟨hb2, HB.out.trans (hb2.mono hbs), A', c', g', cs', by simp [upd], m3.le_ hbs⟩
    · intro m z wv hm hb hd hz
      have d4 := hd { on := 4, ground := .data } (by simp) (by kernel_rfl) (by kernel_rfl)
      obtain ⟨A', c', g', cs', d4, m3⟩ := d4
      have HM := Lib.hid m3
      clear m3
      have HB := Lib.hid hb
      clear hm hd hb hz
      refine ⟨?_⟩
      simp only [fill, Act.put, List.setIfInBounds_toArray, List.set_cons_zero, List.set_cons_succ]
      go_simp
      exact ⟨Below.refl _ _, HB.out, A', c', g', cs', by simp [upd], HM.out⟩
    · intro m z wv hm hb hd hz
      have d5 := hd { on := 5, ground := .data } (by simp) (by kernel_rfl) (by kernel_rfl)
      obtain ⟨A', c', g', cs', d5, m3⟩ := d5
      have HM := Lib.hid m3
      clear m3
      have HB := Lib.hid hb
      clear hm hd hb hz
      refine ⟨?_⟩
      simp only [fill, Act.put, List.setIfInBounds_toArray, List.set_cons_zero, List.set_cons_succ]
      go_simp
      exact ⟨Below.refl _ _, HB.out, A', c', g', cs', by simp [upd], HM.out⟩
    · intro m z wv hm hb hd hz
      have d5 := hd { on := 5, ground := .data } (by simp) (by kernel_rfl) (by kernel_rfl)
      obtain ⟨A', c', g', cs', d5, m3⟩ := d5
      clear m3
      have HB := Lib.hid hb
      clear hm hd hb hz
      refine ⟨?_⟩
      simp only [fill, Act.put, List.setIfInBounds_toArray, List.set_cons_zero, List.set_cons_succ]
      go_simp
      exact ⟨Below.refl _ _, HB.out, by simp [JA, upd]⟩
    · intro m z wv hm hb hd hz
      have hbs := hb.size
      have HB := Lib.hid hb
      clear hm hd hb hz
      refine ⟨?_⟩
      simp only [fill, Act.put, List.setIfInBounds_toArray, List.set_cons_zero, List.set_cons_succ]
      go_simp
      exact ⟨(Below.refl _ _).alloc (Nat.le_refl _) _, HB.out.alloc hbs _, _, by simp [upd], hbs, Bk.new _ _ _⟩
    · intro m z wv hm hb hd hz
      have d8 := hd { on := 8, ground := .data } (by simp) (by kernel_rfl) (by kernel_rfl)
      obtain ⟨b, d8, hbN, hbk⟩ := d8
      have d6 := hd { on := 6, ground := .data } (by simp) (by kernel_rfl) (by kernel_rfl)
      obtain ⟨A', c', g', cs', d6, m3⟩ := d6
      have ho : Only b wv (((wv.setCell ⟨b, 0, none⟩ (.int .i64 (uE ea cr xs y))).setCell ⟨b, 1, none⟩ (.int .i64 (uC ea cr xs y))).setCell ⟨b, 2, none⟩ (.slice A' (uY ea cr xs y).length c')) := (((Only.refl b wv).setCell (p := ⟨b, 0, none⟩) (.inl rfl) _).setCell (p := ⟨b, 1, none⟩) (.inl rfl) _).setCell (p := ⟨b, 2, none⟩) (.inl rfl) _
      have hk := ((hbk.set_ 0 (.int .i64 (uE ea cr xs y))).set_ 1 (.int .i64 (uC ea cr xs y))).set_ 2 (.slice A' (uY ea cr xs y).length c')
      simp only [List.setIfInBounds_toArray, List.set_cons_zero, List.set_cons_succ] at hk
      obtain ⟨m5, hne⟩ := m3.store hbk ho
      have HK := Lib.hid hk
      have HM := Lib.hid m5
      have HNE := Lib.hid hne
      have HBF := Lib.hid (hb.trans (ho.below hbN hb.size))
      have HR := Lib.hid (show ∃ b' k0 k1 k2, Bk wv b' 25 #[k0, k1, k2] ∧ Only b' wv (((wv.setCell ⟨b, 0, none⟩ (.int .i64 (uE ea cr xs y))).setCell ⟨b, 1, none⟩ (.int .i64 (uC ea cr xs y))).setCell ⟨b, 2, none⟩ (.slice A' (uY ea cr xs y).length c')) from ⟨b, _, _, _, hbk, ho⟩)
      (try clear hbk_c0); (try clear hbk_f0)
      (try clear hbk_c1); (try clear hbk_f1)
      (try clear hbk_c2); (try clear hbk_f2)
      (try clear hbk_lt)
      have hbk_lt := hbk.lt; (try simp only [World.size_alloc] at hbk_lt)
      have hbk_c0 := hbk.cell 0; have hbk_f0 := hbk.frozen 0
      have hbk_c1 := hbk.cell 1; have hbk_f1 := hbk.frozen 1
      have hbk_c2 := hbk.cell 2; have hbk_f2 := hbk.frozen 2
      simp only [List.getElem?_toArray, List.getElem?_cons_zero, List.getElem?_cons_succ] at hbk_c0 hbk_c1 hbk_c2
      clear hk m5 hne ho m3
      have HB := Lib.hid hb
      clear hm hd hb hz
      refine ⟨?_⟩
      simp only [fill, Act.put, List.setIfInBounds_toArray, List.set_cons_zero, List.set_cons_succ]
      go_simp
      exact ⟨HR.out, HBF.out, undef, b, A', c', g', cs', by simpa [upd] using d8, hbN, HK.out, HM.out, HNE.out⟩
    · intro m z wv hm hb hd hz
      have d7 := hd { on := 7, ground := .data } (by simp) (by kernel_rfl) (by kernel_rfl)
      replace d7 : z 7 = .bool (uB ea cr xs y) := d7
      have HB := Lib.hid hb
      clear hm hd hb hz
      refine ⟨?_⟩
      simp only [fill, Act.put, List.setIfInBounds_toArray, List.set_cons_zero, List.set_cons_succ]
      go_simp
      exact ⟨Below.refl _ _, HB.out, by simp [JA, upd]⟩
    · intro z w3 hb3 hI
      obtain ⟨b3, A3, c3, g3, cs3, hz8, hbN3, hO4, my3, hn3⟩ := hI 9 (by decide) rfl
      have hz10 : z 10 = .bool (uB ea cr xs y) := hI 10 (by decide) rfl
      clear hI
      replace hP := hP.below hb3 (hP.lt)
      (try clear hP_c0); (try clear hP_f0)
      (try clear hP_c1); (try clear hP_f1)
      (try clear hP_c2); (try clear hP_f2)
      (try clear hP_lt)
      have hP_lt := hP.lt; (try simp only [World.size_alloc] at hP_lt)
      have hP_c0 := hP.cell 0; have hP_f0 := hP.frozen 0
      have hP_c1 := hP.cell 1; have hP_f1 := hP.frozen 1
      have hP_c2 := hP.cell 2; have hP_f2 := hP.frozen 2
      simp only [List.getElem?_toArray, List.getElem?_cons_zero, List.getElem?_cons_succ] at hP_c0 hP_c1 hP_c2
      replace hW := hW.below hb3 (hW.lt)
      (try clear hW_c0); (try clear hW_f0)
      (try clear hW_c1); (try clear hW_f1)
      (try clear hW_c2); (try clear hW_f2)
      (try clear hW_c3); (try clear hW_f3)
      (try clear hW_c4); (try clear hW_f4)
      (try clear hW_c5); (try clear hW_f5)
      (try clear hW_lt)
      have hW_lt := hW.lt; (try simp only [World.size_alloc] at hW_lt)
      have hW_c0 := hW.cell 0; have hW_f0 := hW.frozen 0
      have hW_c1 := hW.cell 1; have hW_f1 := hW.frozen 1
      have hW_c2 := hW.cell 2; have hW_f2 := hW.frozen 2
      have hW_c3 := hW.cell 3; have hW_f3 := hW.frozen 3
      have hW_c4 := hW.cell 4; have hW_f4 := hW.frozen 4
      have hW_c5 := hW.cell 5; have hW_f5 := hW.frozen 5
      simp only [List.getElem?_toArray, List.getElem?_cons_zero, List.getElem?_cons_succ] at hW_c0 hW_c1 hW_c2 hW_c3 hW_c4 hW_c5
      replace hX := hX.below (hb3.mono hsw1)
      have hB3 : Below w.heap.size w w3 := hB1.trans (hb3.mono hsw1)
      have hsw3 := hB3.size
      have hbl3 := hO4.lt; have hWl3 := hW.lt; have hPl3 := hP.lt
      have hs13 := hb3.size
      have ly3 : 0 < (uY ea cr xs y).length → w1.heap.size ≤ g3 ∧ g3 < w3.heap.size := fun hp => ⟨(my3.row hp).2.1, (my3.row hp).2.2⟩
      have HF3 := Lib.hid (And.intro ly3 hn3)
      clear ly3 hn3 hb3
      (try clear hO4_c0); (try clear hO4_f0)
      (try clear hO4_c1); (try clear hO4_f1)
      (try clear hO4_c2); (try clear hO4_f2)
      (try clear hO4_lt)
      have hO4_lt := hO4.lt; (try simp only [World.size_alloc] at hO4_lt)
      have hO4_c0 := hO4.cell 0; have hO4_f0 := hO4.frozen 0
      have hO4_c1 := hO4.cell 1; have hO4_f1 := hO4.frozen 1
      have hO4_c2 := hO4.cell 2; have hO4_f2 := hO4.frozen 2
      simp only [List.getElem?_toArray, List.getElem?_cons_zero, List.getElem?_cons_succ] at hO4_c0 hO4_c1 hO4_c2
      refine ⟨?_⟩
      simp only [fill, Act.put, List.setIfInBounds_toArray, List.set_cons_zero, List.set_cons_succ, hz8, hz10]
      clear hz8 hz10
      go_wp2_with fail
      refine (toRg_MR ea cr A xs.length c w.heap.size xs w3 hX hsw3 hn21).mono ?_
      rintro x w4 ⟨g4, rfl, m4, hb4⟩
      replace hP := hP.below hb4 (by first | omega | exact hP.lt | (simp; done) | (simp; omega))
      (try clear hP_c0); (try clear hP_f0)
      (try clear hP_c1); (try clear hP_f1)
      (try clear hP_c2); (try clear hP_f2)
      (try clear hP_lt)
      have hP_lt := hP.lt; (try simp only [World.size_alloc] at hP_lt)
      have hP_c0 := hP.cell 0; have hP_f0 := hP.frozen 0
      have hP_c1 := hP.cell 1; have hP_f1 := hP.frozen 1
      have hP_c2 := hP.cell 2; have hP_f2 := hP.frozen 2
      simp only [List.getElem?_toArray, List.getElem?_cons_zero, List.getElem?_cons_succ] at hP_c0 hP_c1 hP_c2
      replace hW := hW.below hb4 (by first | omega | exact hW.lt | (simp; done) | (simp; omega))
      (try clear hW_c0); (try clear hW_f0)
      (try clear hW_c1); (try clear hW_f1)
      (try clear hW_c2); (try clear hW_f2)
      (try clear hW_c3); (try clear hW_f3)
      (try clear hW_c4); (try clear hW_f4)
      (try clear hW_c5); (try clear hW_f5)
      (try clear hW_lt)
      have hW_lt := hW.lt; (try simp only [World.size_alloc] at hW_lt)
      have hW_c0 := hW.cell 0; have hW_f0 := hW.frozen 0
      have hW_c1 := hW.cell 1; have hW_f1 := hW.frozen 1
      have hW_c2 := hW.cell 2; have hW_f2 := hW.frozen 2
      have hW_c3 := hW.cell 3; have hW_f3 := hW.frozen 3
      have hW_c4 := hW.cell 4; have hW_f4 := hW.frozen 4
      have hW_c5 := hW.cell 5; have hW_f5 := hW.frozen 5
      simp only [List.getElem?_toArray, List.getElem?_cons_zero, List.getElem?_cons_succ] at hW_c0 hW_c1 hW_c2 hW_c3 hW_c4 hW_c5
      replace hO4 := hO4.below hb4 (by first | omega | exact hO4.lt | (simp; done) | (simp; omega))
      (try clear hO4_c0); (try clear hO4_f0)
      (try clear hO4_c1); (try clear hO4_f1)
      (try clear hO4_c2); (try clear hO4_f2)
      (try clear hO4_lt)
      have hO4_lt := hO4.lt; (try simp only [World.size_alloc] at hO4_lt)
      have hO4_c0 := hO4.cell 0; have hO4_f0 := hO4.frozen 0
      have hO4_c1 := hO4.cell 1; have hO4_f1 := hO4.frozen 1
      have hO4_c2 := hO4.cell 2; have hO4_f2 := hO4.frozen 2
      simp only [List.getElem?_toArray, List.getElem?_cons_zero, List.getElem?_cons_succ] at hO4_c0 hO4_c1 hO4_c2
      replace hX := hX.below (hb4.mono hsw3)
      replace my3 := my3.below_ hb4
      have hB4 : Below w.heap.size w w4 := hB3.trans (hb4.mono hsw3)
      have hsw4 := hB4.size
      have hs34 := hb4.size
      clear hb4
      have C4 : 0 < xs.length → w3.heap.size ≤ g4 ∧ g4 < w4.heap.size := fun hp => ⟨(m4.row hp).2.1, (m4.row hp).2.2.1⟩
      have HF4 := Lib.hid C4
      clear C4
      have hO7 := Bk.new w4 25 #[.int .i64 ea, .int .i64 cr, .slice (some ⟨g4, 0, none⟩) xs.length xs.length]
      have hbx : Below w4.heap.size w4 (w4.alloc (.cells #[.int .i64 ea, .int .i64 cr, .slice (some ⟨g4, 0, none⟩) xs.length xs.length] 25)) := (by repeat (first | exact Below.refl _ _ | assumption | refine Below.setCell ?_ (by first | omega | (simp; done) | (simp; omega)) _ | refine Below.alloc ?_ (by first | omega | (simp; done) | (simp; omega)) _ | refine Below.drew ?_ | refine Below.drewN' ?_ _ | refine Below.trans ?_ (Below.mono (by assumption) (by first | omega | (simp; done) | (simp; omega)))))
      replace hP := hP.below hbx hP.lt
      replace hW := hW.below hbx hW.lt
      replace hO4 := hO4.below hbx hO4.lt
      replace hX := hX.below (hbx.mono hsw4)
      replace my3 := my3.below_ hbx
      replace m4 := m4.below_ hbx
      have hBx := hB4.trans (hbx.mono hsw4)
      have hswx := hBx.size
      (try clear hP_c0); (try clear hP_f0)
      (try clear hP_c1); (try clear hP_f1)
      (try clear hP_c2); (try clear hP_f2)
      (try clear hP_lt)
      have hP_lt := hP.lt; (try simp only [World.size_alloc] at hP_lt)
      have hP_c0 := hP.cell 0; have hP_f0 := hP.frozen 0
      have hP_c1 := hP.cell 1; have hP_f1 := hP.frozen 1
      have hP_c2 := hP.cell 2; have hP_f2 := hP.frozen 2
      simp only [List.getElem?_toArray, List.getElem?_cons_zero, List.getElem?_cons_succ] at hP_c0 hP_c1 hP_c2
      (try clear hW_c0); (try clear hW_f0)
      (try clear hW_c1); (try clear hW_f1)
      (try clear hW_c2); (try clear hW_f2)
      (try clear hW_c3); (try clear hW_f3)
      (try clear hW_c4); (try clear hW_f4)
      (try clear hW_c5); (try clear hW_f5)
      (try clear hW_lt)
      have hW_lt := hW.lt; (try simp only [World.size_alloc] at hW_lt)
      have hW_c0 := hW.cell 0; have hW_f0 := hW.frozen 0
      have hW_c1 := hW.cell 1; have hW_f1 := hW.frozen 1
      have hW_c2 := hW.cell 2; have hW_f2 := hW.frozen 2
      have hW_c3 := hW.cell 3; have hW_f3 := hW.frozen 3
      have hW_c4 := hW.cell 4; have hW_f4 := hW.frozen 4
      have hW_c5 := hW.cell 5; have hW_f5 := hW.frozen 5
      simp only [List.getElem?_toArray, List.getElem?_cons_zero, List.getElem?_cons_succ] at hW_c0 hW_c1 hW_c2 hW_c3 hW_c4 hW_c5
      (try clear hO4_c0); (try clear hO4_f0)
      (try clear hO4_c1); (try clear hO4_f1)
      (try clear hO4_c2); (try clear hO4_f2)
      (try clear hO4_lt)
      have hO4_lt := hO4.lt; (try simp only [World.size_alloc] at hO4_lt)
      have hO4_c0 := hO4.cell 0; have hO4_f0 := hO4.frozen 0
      have hO4_c1 := hO4.cell 1; have hO4_f1 := hO4.frozen 1
      have hO4_c2 := hO4.cell 2; have hO4_f2 := hO4.frozen 2
      simp only [List.getElem?_toArray, List.getElem?_cons_zero, List.getElem?_cons_succ] at hO4_c0 hO4_c1 hO4_c2
      (try clear hO7_c0); (try clear hO7_f0)
      (try clear hO7_c1); (try clear hO7_f1)
      (try clear hO7_c2); (try clear hO7_f2)
      (try clear hO7_lt)
      have hO7_lt := hO7.lt; (try simp only [World.size_alloc] at hO7_lt)
      have hO7_c0 := hO7.cell 0; have hO7_f0 := hO7.frozen 0
      have hO7_c1 := hO7.cell 1; have hO7_f1 := hO7.frozen 1
      have hO7_c2 := hO7.cell 2; have hO7_f2 := hO7.frozen 2
      simp only [List.getElem?_toArray, List.getElem?_cons_zero, List.getElem?_cons_succ] at hO7_c0 hO7_c1 hO7_c2
      have hsxw : (w4.alloc (.cells #[.int .i64 ea, .int .i64 cr, .slice (some ⟨g4, 0, none⟩) xs.length xs.length] 25)).heap.size = w4.heap.size + 1 := by simp
      clear hbx
      go_wp2_with fail
      generalize w4.alloc (.cells #[.int .i64 ea, .int .i64 cr, .slice (some ⟨g4, 0, none⟩) xs.length xs.length] 25) = wx at *
      have HSX := Lib.hid hsxw
      clear hsxw
      refine wp_region_dep JBS JBT (fun _ => True) [] (fun _ w' => Below wx.heap.size wx w') JBR (JB wx.heap.size ea cr (some ⟨g4, 0, none⟩) xs.length xs.length xs y (uE ea cr xs y) (uC ea cr xs y) (uY ea cr xs y) (uB ea cr xs y)) (by kernel_rfl) (by kernel_rfl) (by kernel_rfl) (Below.drew (Below.refl _ _)) trivial (by kernel_rfl) (fun i j x v w hij hl h => JB.loc i j x v w hij (fun h9 h8 => by subst h9 h8; exact absurd (show false = true from hl.symm.trans (by kernel_rfl)) (by decide)) h) JB.mono (fun _ _ _ _ _ _ => trivial) ⟨?_, ?_, ?_, ?_, ?_, ?_, ?_, ?_, ?_, ?_, trivial⟩ ?_
      · intro m z wv hm hb hd hz
        have hq := hO7.below hb hO7.lt
        (try clear hq_c0); (try clear hq_f0)
        (try clear hq_c1); (try clear hq_f1)
        (try clear hq_c2); (try clear hq_f2)
        (try clear hq_lt)
        have hq_lt := hq.lt; (try simp only [World.size_alloc] at hq_lt)
        have hq_c0 := hq.cell 0; have hq_f0 := hq.frozen 0
        have hq_c1 := hq.cell 1; have hq_f1 := hq.frozen 1
        have hq_c2 := hq.cell 2; have hq_f2 := hq.frozen 2
        simp only [List.getElem?_toArray, List.getElem?_cons_zero, List.getElem?_cons_succ] at hq_c0 hq_c1 hq_c2
        have HB := Lib.hid hb
        clear hm hd hb hz
        refine ⟨?_⟩
        simp only [fill, Act.put, List.setIfInBounds_toArray, List.set_cons_zero, List.set_cons_succ]
        go_simp
        exact ⟨Below.refl _ _, HB.out, by simp [JB, upd]⟩
      · intro m z wv hm hb hd hz
        have hq := hW.below hb hW.lt
        (try clear hq_c0); (try clear hq_f0)
        (try clear hq_c1); (try clear hq_f1)
        (try clear hq_c2); (try clear hq_f2)
        (try clear hq_c3); (try clear hq_f3)
        (try clear hq_c4); (try clear hq_f4)
        (try clear hq_c5); (try clear hq_f5)
        (try clear hq_lt)
        have hq_lt := hq.lt; (try simp only [World.size_alloc] at hq_lt)
        have hq_c0 := hq.cell 0; have hq_f0 := hq.frozen 0
        have hq_c1 := hq.cell 1; have hq_f1 := hq.frozen 1
        have hq_c2 := hq.cell 2; have hq_f2 := hq.frozen 2
        have hq_c3 := hq.cell 3; have hq_f3 := hq.frozen 3
        have hq_c4 := hq.cell 4; have hq_f4 := hq.frozen 4
        have hq_c5 := hq.cell 5; have hq_f5 := hq.frozen 5
        simp only [List.getElem?_toArray, List.getElem?_cons_zero, List.getElem?_cons_succ] at hq_c0 hq_c1 hq_c2 hq_c3 hq_c4 hq_c5
        have HB := Lib.hid hb
        clear hm hd hb hz
        refine ⟨?_⟩
        simp only [fill, Act.put, List.setIfInBounds_toArray, List.set_cons_zero, List.set_cons_succ]
        go_simp
        exact ⟨Below.refl _ _, HB.out, by simp [JB, upd]⟩
      · intro m z wv hm hb hd hz
        have d1 := hd { on := 1, ground := .data } (by simp) (by kernel_rfl) (by kernel_rfl)
        replace d1 : z 1 = .agg #[.int .i64 y.wi, .int .i64 y.ti, .int .i64 y.la, .int .i64 y.si, .bool y.ky, .bool y.en] := d1
        have hbs := hb.size
        have HB := Lib.hid hb
        clear hm hd hb hz
        refine ⟨?_⟩
        simp only [fill, Act.put, List.setIfInBounds_toArray, List.set_cons_zero, List.set_cons_succ]
        go_simp
        refine (toPacket_any y wv).mono ?_
        rintro e w2 ⟨rfl, hb2⟩
        exact ⟨hb2, HB.out.trans (hb2.mono hbs), by simp [JB, upd]⟩
      · intro m z wv hm hb hd hz
        have d0 := hd { on := 0, ground := .data } (by simp) (by kernel_rfl) (by kernel_rfl)
        replace d0 : z 0 = .agg #[.int .i64 ea, .int .i64 cr, .slice (some ⟨g4, 0, none⟩) xs.length xs.length] := d0
        have m2 := m4.below_ hb
        have d2 := hd { on := 2, ground := .data } (by simp) (by kernel_rfl) (by kernel_rfl)
        replace d2 : z 2 = .agg #[.int .i64 y.wi, .int .i64 y.ti, .int .i64 y.la, .int .i64 y.si, .bool y.ky, .bool y.en] := d2
        have HM := Lib.hid m2
        clear m2
        have hbs := hb.size
        have HB := Lib.hid hb
        clear hm hd hb hz
        refine ⟨?_⟩
        simp only [fill, Act.put, List.setIfInBounds_toArray, List.set_cons_zero, List.set_cons_succ]
        go_simp
        refine (iput_all ea cr (some ⟨g4, 0, none⟩) xs.length xs.length xs y wv HM.out.seq hn40 (Nat.le_refl _) (by omega)).mono ?_
        rintro e w2 ⟨A', c', g', cs', rfl, m3, hb2⟩
        exact ⟨hb2, HB.out.trans (hb2.mono hbs), A', c', g', cs', by simp [upd], m3.le_ hbs⟩
      · intro m z wv hm hb hd hz
        have d3 := hd { on := 3, ground := .data } (by simp) (by kernel_rfl) (by kernel_rfl)
        obtain ⟨A', c', g', cs', d3, m3⟩ := d3
        have HM := Lib.hid m3
        clear m3
        have HB := Lib.hid hb
        clear hm hd hb hz
        refine ⟨?_⟩
        simp only [fill, Act.put, List.setIfInBounds_toArray, List.set_cons_zero, List.set_cons_succ]
        go_simp
        exact ⟨Below.refl _ _, HB.out, A', c', g', cs', by simp [upd], HM.out⟩
      · intro m z wv hm hb hd hz
        have d4 := hd { on := 4, ground := .data } (by simp) (by kernel_rfl) (by kernel_rfl)
        obtain ⟨A', c', g', cs', d4, m3⟩ := d4
        have HM := Lib.hid m3
        clear m3
        have HB := Lib.hid hb
        clear hm hd hb hz
        refine ⟨?_⟩
        simp only [fill, Act.put, List.setIfInBounds_toArray, List.set_cons_zero, List.set_cons_succ]
        go_simp
        exact ⟨Below.refl _ _, HB.out, A', c', g', cs', by simp [upd], HM.out⟩
      · intro m z wv hm hb hd hz
        have d4 := hd { on := 4, ground := .data } (by simp) (by kernel_rfl) (by kernel_rfl)
        obtain ⟨A', c', g', cs', d4, m3⟩ := d4
        clear m3
        have HB := Lib.hid hb
        clear hm hd hb hz
        refine ⟨?_⟩
        simp only [fill, Act.put, List.setIfInBounds_toArray, List.set_cons_zero, List.set_cons_succ]
        go_simp
        exact ⟨Below.refl _ _, HB.out, by simp [JB, upd]⟩
      · intro m z wv hm hb hd hz
        have hbs := hb.size
        have HB := Lib.hid hb
        clear hm hd hb hz
        refine ⟨?_⟩
        simp only [fill, Act.put, List.setIfInBounds_toArray, List.set_cons_zero, List.set_cons_succ]
        go_simp
        exact ⟨(Below.refl _ _).alloc (Nat.le_refl _) _, HB.out.alloc hbs _, _, by simp [upd], hbs, Bk.new _ _ _⟩
      · intro m z wv hm hb hd hz
        have d7 := hd { on := 7, ground := .data } (by simp) (by kernel_rfl) (by kernel_rfl)
        obtain ⟨b, d7, hbN, hbk⟩ := d7
        have d5 := hd { on := 5, ground := .data } (by simp) (by kernel_rfl) (by kernel_rfl)
        obtain ⟨A', c', g', cs', d5, m3⟩ := d5
        have ho : Only b wv (((wv.setCell ⟨b, 0, none⟩ (.int .i64 (uE ea cr xs y))).setCell ⟨b, 1, none⟩ (.int .i64 (uC ea cr xs y))).setCell ⟨b, 2, none⟩ (.slice A' (uY ea cr xs y).length c')) := (((Only.refl b wv).setCell (p := ⟨b, 0, none⟩) (.inl rfl) _).setCell (p := ⟨b, 1, none⟩) (.inl rfl) _).setCell (p := ⟨b, 2, none⟩) (.inl rfl) _
        have hk := ((hbk.set_ 0 (.int .i64 (uE ea cr xs y))).set_ 1 (.int .i64 (uC ea cr xs y))).set_ 2 (.slice A' (uY ea cr xs y).length c')
        simp only [List.setIfInBounds_toArray, List.set_cons_zero, List.set_cons_succ] at hk
        obtain ⟨m5, hne⟩ := m3.store hbk ho
        have HK := Lib.hid hk
        have HM := Lib.hid m5
        have HNE := Lib.hid hne
        have HBF := Lib.hid (hb.trans (ho.below hbN hb.size))
        have HR := Lib.hid (show ∃ b' k0 k1 k2, Bk wv b' 25 #[k0, k1, k2] ∧ Only b' wv (((wv.setCell ⟨b, 0, none⟩ (.int .i64 (uE ea cr xs y))).setCell ⟨b, 1, none⟩ (.int .i64 (uC ea cr xs y))).setCell ⟨b, 2, none⟩ (.slice A' (uY ea cr xs y).length c')) from ⟨b, _, _, _, hbk, ho⟩)
        (try clear hbk_c0); (try clear hbk_f0)
        (try clear hbk_c1); (try clear hbk_f1)
        (try clear hbk_c2); (try clear hbk_f2)
        (try clear hbk_lt)
        have hbk_lt := hbk.lt; (try simp only [World.size_alloc] at hbk_lt)
        have hbk_c0 := hbk.cell 0; have hbk_f0 := hbk.frozen 0
        have hbk_c1 := hbk.cell 1; have hbk_f1 := hbk.frozen 1
        have hbk_c2 := hbk.cell 2; have hbk_f2 := hbk.frozen 2
        simp only [List.getElem?_toArray, List.getElem?_cons_zero, List.getElem?_cons_succ] at hbk_c0 hbk_c1 hbk_c2
        clear hk m5 hne ho m3
        have HB := Lib.hid hb
        clear hm hd hb hz
        refine ⟨?_⟩
        simp only [fill, Act.put, List.setIfInBounds_toArray, List.set_cons_zero, List.set_cons_succ]
        go_simp
        exact ⟨HR.out, HBF.out, undef, b, A', c', g', cs', by simpa [upd] using d7, hbN, HK.out, HM.out, HNE.out⟩
      · intro m z wv hm hb hd hz
        have d6 := hd { on := 6, ground := .data } (by simp) (by kernel_rfl) (by kernel_rfl)
        replace d6 : z 6 = .bool (uB ea cr xs y) := d6
        have HB := Lib.hid hb
        clear hm hd hb hz
        refine ⟨?_⟩
        simp only [fill, Act.put, List.setIfInBounds_toArray, List.set_cons_zero, List.set_cons_succ]
        go_simp
        exact ⟨Below.refl _ _, HB.out, by simp [JB, upd]⟩
      · intro z w5 hb5 hI
        obtain ⟨b5, A5, c5, g5, cs5, hz7, hbN5, hO8, my5, hn5⟩ := hI 8 (by decide) rfl
        have hz9 : z 9 = .bool (uB ea cr xs y) := hI 9 (by decide) rfl
        clear hI
        replace hP := hP.below hb5 (hP.lt)
        (try clear hP_c0); (try clear hP_f0)
        (try clear hP_c1); (try clear hP_f1)
        (try clear hP_c2); (try clear hP_f2)
        (try clear hP_lt)
        have hP_lt := hP.lt; (try simp only [World.size_alloc] at hP_lt)
        have hP_c0 := hP.cell 0; have hP_f0 := hP.frozen 0
        have hP_c1 := hP.cell 1; have hP_f1 := hP.frozen 1
        have hP_c2 := hP.cell 2; have hP_f2 := hP.frozen 2
        simp only [List.getElem?_toArray, List.getElem?_cons_zero, List.getElem?_cons_succ] at hP_c0 hP_c1 hP_c2
        replace hW := hW.below hb5 (hW.lt)
        (try clear hW_c0); (try clear hW_f0)
        (try clear hW_c1); (try clear hW_f1)
        (try clear hW_c2); (try clear hW_f2)
        (try clear hW_c3); (try clear hW_f3)
        (try clear hW_c4); (try clear hW_f4)
        (try clear hW_c5); (try clear hW_f5)
        (try clear hW_lt)
        have hW_lt := hW.lt; (try simp only [World.size_alloc] at hW_lt)
        have hW_c0 := hW.cell 0; have hW_f0 := hW.frozen 0
        have hW_c1 := hW.cell 1; have hW_f1 := hW.frozen 1
        have hW_c2 := hW.cell 2; have hW_f2 := hW.frozen 2
        have hW_c3 := hW.cell 3; have hW_f3 := hW.frozen 3
        have hW_c4 := hW.cell 4; have hW_f4 := hW.frozen 4
        have hW_c5 := hW.cell 5; have hW_f5 := hW.frozen 5
        simp only [List.getElem?_toArray, List.getElem?_cons_zero, List.getElem?_cons_succ] at hW_c0 hW_c1 hW_c2 hW_c3 hW_c4 hW_c5
        replace hO4 := hO4.below hb5 (hO4.lt)
        (try clear hO4_c0); (try clear hO4_f0)
        (try clear hO4_c1); (try clear hO4_f1)
        (try clear hO4_c2); (try clear hO4_f2)
        (try clear hO4_lt)
        have hO4_lt := hO4.lt; (try simp only [World.size_alloc] at hO4_lt)
        have hO4_c0 := hO4.cell 0; have hO4_f0 := hO4.frozen 0
        have hO4_c1 := hO4.cell 1; have hO4_f1 := hO4.frozen 1
        have hO4_c2 := hO4.cell 2; have hO4_f2 := hO4.frozen 2
        simp only [List.getElem?_toArray, List.getElem?_cons_zero, List.getElem?_cons_succ] at hO4_c0 hO4_c1 hO4_c2
        replace hO7 := hO7.below hb5 (hO7.lt)
        (try clear hO7_c0); (try clear hO7_f0)
        (try clear hO7_c1); (try clear hO7_f1)
        (try clear hO7_c2); (try clear hO7_f2)
        (try clear hO7_lt)
        have hO7_lt := hO7.lt; (try simp only [World.size_alloc] at hO7_lt)
        have hO7_c0 := hO7.cell 0; have hO7_f0 := hO7.frozen 0
        have hO7_c1 := hO7.cell 1; have hO7_f1 := hO7.frozen 1
        have hO7_c2 := hO7.cell 2; have hO7_f2 := hO7.frozen 2
        simp only [List.getElem?_toArray, List.getElem?_cons_zero, List.getElem?_cons_succ] at hO7_c0 hO7_c1 hO7_c2
        replace hX := hX.below (hb5.mono hswx)
        replace my3 := my3.below_ hb5
        replace m4 := m4.below_ hb5
        have hB5 : Below w.heap.size w w5 := hBx.trans (hb5.mono hswx)
        have hsw5 := hB5.size
        have hs45 : w4.heap.size + 1 ≤ w5.heap.size := by have h1 := hb5.size; have h2 := HSX.out; omega
        have hbl5 := hO8.lt
        rw [HSX.out] at hbN5 my5
        clear hb5 hBx hswx
        have ly5 : 0 < (uY ea cr xs y).length → w4.heap.size + 1 ≤ g5 ∧ g5 < w5.heap.size := fun hp => ⟨(my5.row hp).2.1, (my5.row hp).2.2.1⟩
        have ay5 : 0 < (uY ea cr xs y).length → A5 = some ⟨g5, 0, none⟩ := fun hp => (my5.row hp).1
        have HF5 := Lib.hid (And.intro ly5 (And.intro hn5 ay5))
        have HA5 := Lib.hid ay5
        clear ly5 hn5 ay5
        (try clear hO8_c0); (try clear hO8_f0)
        (try clear hO8_c1); (try clear hO8_f1)
        (try clear hO8_c2); (try clear hO8_f2)
        (try clear hO8_lt)
        have hO8_lt := hO8.lt; (try simp only [World.size_alloc] at hO8_lt)
        have hO8_c0 := hO8.cell 0; have hO8_f0 := hO8.frozen 0
        have hO8_c1 := hO8.cell 1; have hO8_f1 := hO8.frozen 1
        have hO8_c2 := hO8.cell 2; have hO8_f2 := hO8.frozen 2
        simp only [List.getElem?_toArray, List.getElem?_cons_zero, List.getElem?_cons_succ] at hO8_c0 hO8_c1 hO8_c2
        refine ⟨?_⟩
        simp only [fill, Act.put, List.setIfInBounds_toArray, List.set_cons_zero, List.set_cons_succ, hz7, hz9]
        clear hz7 hz9
        go_wp2_with fail
        refine (eqRg_MR _ _ c5 c3 my5.seq my3.seq hyl2).mono ?_
        rintro x w6 ⟨rfl, hb6⟩
        replace hP := hP.below hb6 (by first | omega | exact hP.lt | (simp; done) | (simp; omega))
        (try clear hP_c0); (try clear hP_f0)
        (try clear hP_c1); (try clear hP_f1)
        (try clear hP_c2); (try clear hP_f2)
        (try clear hP_lt)
        have hP_lt := hP.lt; (try simp only [World.size_alloc] at hP_lt)
        have hP_c0 := hP.cell 0; have hP_f0 := hP.frozen 0
        have hP_c1 := hP.cell 1; have hP_f1 := hP.frozen 1
        have hP_c2 := hP.cell 2; have hP_f2 := hP.frozen 2
        simp only [List.getElem?_toArray, List.getElem?_cons_zero, List.getElem?_cons_succ] at hP_c0 hP_c1 hP_c2
        replace hW := hW.below hb6 (by first | omega | exact hW.lt | (simp; done) | (simp; omega))
        (try clear hW_c0); (try clear hW_f0)
        (try clear hW_c1); (try clear hW_f1)
        (try clear hW_c2); (try clear hW_f2)
        (try clear hW_c3); (try clear hW_f3)
        (try clear hW_c4); (try clear hW_f4)
        (try clear hW_c5); (try clear hW_f5)
        (try clear hW_lt)
        have hW_lt := hW.lt; (try simp only [World.size_alloc] at hW_lt)
        have hW_c0 := hW.cell 0; have hW_f0 := hW.frozen 0
        have hW_c1 := hW.cell 1; have hW_f1 := hW.frozen 1
        have hW_c2 := hW.cell 2; have hW_f2 := hW.frozen 2
        have hW_c3 := hW.cell 3; have hW_f3 := hW.frozen 3
        have hW_c4 := hW.cell 4; have hW_f4 := hW.frozen 4
        have hW_c5 := hW.cell 5; have hW_f5 := hW.frozen 5
        simp only [List.getElem?_toArray, List.getElem?_cons_zero, List.getElem?_cons_succ] at hW_c0 hW_c1 hW_c2 hW_c3 hW_c4 hW_c5
        replace hO4 := hO4.below hb6 (by first | omega | exact hO4.lt | (simp; done) | (simp; omega))
        (try clear hO4_c0); (try clear hO4_f0)
        (try clear hO4_c1); (try clear hO4_f1)
        (try clear hO4_c2); (try clear hO4_f2)
        (try clear hO4_lt)
        have hO4_lt := hO4.lt; (try simp only [World.size_alloc] at hO4_lt)
        have hO4_c0 := hO4.cell 0; have hO4_f0 := hO4.frozen 0
        have hO4_c1 := hO4.cell 1; have hO4_f1 := hO4.frozen 1
        have hO4_c2 := hO4.cell 2; have hO4_f2 := hO4.frozen 2
        simp only [List.getElem?_toArray, List.getElem?_cons_zero, List.getElem?_cons_succ] at hO4_c0 hO4_c1 hO4_c2
        replace hO7 := hO7.below hb6 (by first | omega | exact hO7.lt | (simp; done) | (simp; omega))
        (try clear hO7_c0); (try clear hO7_f0)
        (try clear hO7_c1); (try clear hO7_f1)
        (try clear hO7_c2); (try clear hO7_f2)
        (try clear hO7_lt)
        have hO7_lt := hO7.lt; (try simp only [World.size_alloc] at hO7_lt)
        have hO7_c0 := hO7.cell 0; have hO7_f0 := hO7.frozen 0
        have hO7_c1 := hO7.cell 1; have hO7_f1 := hO7.frozen 1
        have hO7_c2 := hO7.cell 2; have hO7_f2 := hO7.frozen 2
        simp only [List.getElem?_toArray, List.getElem?_cons_zero, List.getElem?_cons_succ] at hO7_c0 hO7_c1 hO7_c2
        replace hO8 := hO8.below hb6 (by first | omega | exact hO8.lt | (simp; done) | (simp; omega))
        (try clear hO8_c0); (try clear hO8_f0)
        (try clear hO8_c1); (try clear hO8_f1)
        (try clear hO8_c2); (try clear hO8_f2)
        (try clear hO8_lt)
        have hO8_lt := hO8.lt; (try simp only [World.size_alloc] at hO8_lt)
        have hO8_c0 := hO8.cell 0; have hO8_f0 := hO8.frozen 0
        have hO8_c1 := hO8.cell 1; have hO8_f1 := hO8.frozen 1
        have hO8_c2 := hO8.cell 2; have hO8_f2 := hO8.frozen 2
        simp only [List.getElem?_toArray, List.getElem?_cons_zero, List.getElem?_cons_succ] at hO8_c0 hO8_c1 hO8_c2
        replace hX := hX.below (hb6.mono hsw5)
        replace my3 := my3.below_ hb6
        replace m4 := m4.below_ hb6
        replace my5 := my5.below_ hb6
        have hB6 : Below w.heap.size w w6 := hB5.trans (hb6.mono hsw5)
        have hsw6 := hB6.size
        have hs56 := hb6.size
        clear hb6
        go_wp2_with fail
        have hswd : w.heap.size ≤ w6.drew.heap.size := hsw6
        have HX := Lib.hid (show Pks w6.drew w.heap.size A xs.length xs from hX)
        have HM4 := Lib.hid (show MR w6.drew w3.heap.size (some ⟨g4, 0, none⟩) g4 xs (xs.flatMap Pk.c) from ⟨m4.seq, m4.row⟩)
        go_region_held3 (fun w' => w'.cell? ⟨w.heap.size, 0, none⟩ = some (.int .i64 ea) ∧ w'.cell? ⟨w.heap.size, 1, none⟩ = some (.int .i64 cr) ∧ w'.cell? ⟨w.heap.size, 2, none⟩ = some (.slice A xs.length c) ∧ w'.cell? ⟨w4.heap.size, 0, none⟩ = some (.int .i64 ea) ∧ w'.cell? ⟨w4.heap.size, 1, none⟩ = some (.int .i64 cr) ∧ w'.cell? ⟨w4.heap.size, 2, none⟩ = some (.slice (some ⟨g4, 0, none⟩) xs.length xs.length)) (first | with_reducible exact ⟨hP8_0, hP8_1, hP8_2, hO78_0, hO78_1, hO78_2⟩ | with_reducible exact ⟨hP89_0, hP89_1, hP89_2, hO789_0, hO789_1, hO789_2⟩ | exact ⟨hP_c0, hP_c1, hP_c2, hO7_c0, hO7_c1, hO7_c2⟩)
          (first
            | (go_at_call 15; (with_reducible refine (toRg_MR ea cr A xs.length c w.heap.size xs w6.drew HX.out hswd hn21).mono ?_); rintro e w8 ⟨g8, rfl, m8, hb8⟩; have hP8 := hP.drew.below hb8 hP.lt; have hP8_0 := hP8.cell 0; have hP8_1 := hP8.cell 1; have hP8_2 := hP8.cell 2; simp only [List.getElem?_toArray, List.getElem?_cons_zero, List.getElem?_cons_succ] at hP8_0 hP8_1 hP8_2; have hO78 := hO7.drew.below hb8 hO7.lt; have hO78_0 := hO78.cell 0; have hO78_1 := hO78.cell 1; have hO78_2 := hO78.cell 2; simp only [List.getElem?_toArray, List.getElem?_cons_zero, List.getElem?_cons_succ] at hO78_0 hO78_1 hO78_2; have m48 := HM4.out.below_ hb8)
            | (go_at_call 17; (with_reducible refine (eqRg_MR ea cr xs.length xs.length m48.seq m8.seq hn21).mono ?_); rintro e w9 ⟨rfl, hb89⟩; have hP89 := hP8.below hb89 hP8.lt; have hP89_0 := hP89.cell 0; have hP89_1 := hP89.cell 1; have hP89_2 := hP89.cell 2; simp only [List.getElem?_toArray, List.getElem?_cons_zero, List.getElem?_cons_succ] at hP89_0 hP89_1 hP89_2; have hO789 := hO78.below hb89 hO78.lt; have hO789_0 := hO789.cell 0; have hO789_1 := hO789.cell 1; have hO789_2 := hO789.cell 2; simp only [List.getElem?_toArray, List.getElem?_cons_zero, List.getElem?_cons_succ] at hO789_0 hO789_1 hO789_2))
        clear hP8_0 hP8_1 hP8_2 hO78_0 hO78_1 hO78_2 hP89_0 hP89_1 hP89_2 hO789_0 hO789_1 hO789_2
        have hb9 : Below w6.heap.size w6 w9 := (Below.drew (Below.refl _ _)).trans (hb8.trans (hb89.mono hb8.size))
        clear hb8 hb89 HX HM4 hP8 hO78 hP89 hO789 m48 m8
        replace hP := hP.below hb9 (by first | omega | exact hP.lt | (simp; done) | (simp; omega))
        (try clear hP_c0); (try clear hP_f0)
        (try clear hP_c1); (try clear hP_f1)
        (try clear hP_c2); (try clear hP_f2)
        (try clear hP_lt)
        have hP_lt := hP.lt; (try simp only [World.size_alloc] at hP_lt)
        have hP_c0 := hP.cell 0; have hP_f0 := hP.frozen 0
        have hP_c1 := hP.cell 1; have hP_f1 := hP.frozen 1
        have hP_c2 := hP.cell 2; have hP_f2 := hP.frozen 2
        simp only [List.getElem?_toArray, List.getElem?_cons_zero, List.getElem?_cons_succ] at hP_c0 hP_c1 hP_c2
        replace hW := hW.below hb9 (by first | omega | exact hW.lt | (simp; done) | (simp; omega))
        (try clear hW_c0); (try clear hW_f0)
        (try clear hW_c1); (try clear hW_f1)
        (try clear hW_c2); (try clear hW_f2)
        (try clear hW_c3); (try clear hW_f3)
        (try clear hW_c4); (try clear hW_f4)
        (try clear hW_c5); (try clear hW_f5)
        (try clear hW_lt)
        have hW_lt := hW.lt; (try simp only [World.size_alloc] at hW_lt)
        have hW_c0 := hW.cell 0; have hW_f0 := hW.frozen 0
        have hW_c1 := hW.cell 1; have hW_f1 := hW.frozen 1
        have hW_c2 := hW.cell 2; have hW_f2 := hW.frozen 2
        have hW_c3 := hW.cell 3; have hW_f3 := hW.frozen 3
        have hW_c4 := hW.cell 4; have hW_f4 := hW.frozen 4
        have hW_c5 := hW.cell 5; have hW_f5 := hW.frozen 5
        simp only [List.getElem?_toArray, List.getElem?_cons_zero, List.getElem?_cons_succ] at hW_c0 hW_c1 hW_c2 hW_c3 hW_c4 hW_c5
        replace hO4 := hO4.below hb9 (by first | omega | exact hO4.lt | (simp; done) | (simp; omega))
        (try clear hO4_c0); (try clear hO4_f0)
        (try clear hO4_c1); (try clear hO4_f1)
        (try clear hO4_c2); (try clear hO4_f2)
        (try clear hO4_lt)
        have hO4_lt := hO4.lt; (try simp only [World.size_alloc] at hO4_lt)
        have hO4_c0 := hO4.cell 0; have hO4_f0 := hO4.frozen 0
        have hO4_c1 := hO4.cell 1; have hO4_f1 := hO4.frozen 1
        have hO4_c2 := hO4.cell 2; have hO4_f2 := hO4.frozen 2
        simp only [List.getElem?_toArray, List.getElem?_cons_zero, List.getElem?_cons_succ] at hO4_c0 hO4_c1 hO4_c2
        replace hO7 := hO7.below hb9 (by first | omega | exact hO7.lt | (simp; done) | (simp; omega))
        (try clear hO7_c0); (try clear hO7_f0)
        (try clear hO7_c1); (try clear hO7_f1)
        (try clear hO7_c2); (try clear hO7_f2)
        (try clear hO7_lt)
        have hO7_lt := hO7.lt; (try simp only [World.size_alloc] at hO7_lt)
        have hO7_c0 := hO7.cell 0; have hO7_f0 := hO7.frozen 0
        have hO7_c1 := hO7.cell 1; have hO7_f1 := hO7.frozen 1
        have hO7_c2 := hO7.cell 2; have hO7_f2 := hO7.frozen 2
        simp only [List.getElem?_toArray, List.getElem?_cons_zero, List.getElem?_cons_succ] at hO7_c0 hO7_c1 hO7_c2
        replace hO8 := hO8.below hb9 (by first | omega | exact hO8.lt | (simp; done) | (simp; omega))
        (try clear hO8_c0); (try clear hO8_f0)
        (try clear hO8_c1); (try clear hO8_f1)
        (try clear hO8_c2); (try clear hO8_f2)
        (try clear hO8_lt)
        have hO8_lt := hO8.lt; (try simp only [World.size_alloc] at hO8_lt)
        have hO8_c0 := hO8.cell 0; have hO8_f0 := hO8.frozen 0
        have hO8_c1 := hO8.cell 1; have hO8_f1 := hO8.frozen 1
        have hO8_c2 := hO8.cell 2; have hO8_f2 := hO8.frozen 2
        simp only [List.getElem?_toArray, List.getElem?_cons_zero, List.getElem?_cons_succ] at hO8_c0 hO8_c1 hO8_c2
        replace hX := hX.below (hb9.mono hsw6)
        replace my3 := my3.below_ hb9
        replace m4 := m4.below_ hb9
        replace my5 := my5.below_ hb9
        have hB9 : Below w.heap.size w w9 := hB6.trans (hb9.mono hsw6)
        have hsw9 := hB9.size
        have hs69 := hb9.size
        clear hb9
        go_wp2_with fail
        refine (markRg_MR ea cr xs.length 1 m4 hn21 (by omega) (by omega)).mono ?_
        rintro x w10 ⟨rfl, hk4, hbm⟩
        obtain ⟨ly3, hn3⟩ := HF3.out
        have C4 := HF4.out
        obtain ⟨ly5, hn5, ay5⟩ := HF5.out
        replace hP := hP.but hbm (by rintro ⟨he, hp⟩; have h1 := (C4 hp); omega)
        (try clear hP_c0); (try clear hP_f0)
        (try clear hP_c1); (try clear hP_f1)
        (try clear hP_c2); (try clear hP_f2)
        (try clear hP_lt)
        have hP_lt := hP.lt; (try simp only [World.size_alloc] at hP_lt)
        have hP_c0 := hP.cell 0; have hP_f0 := hP.frozen 0
        have hP_c1 := hP.cell 1; have hP_f1 := hP.frozen 1
        have hP_c2 := hP.cell 2; have hP_f2 := hP.frozen 2
        simp only [List.getElem?_toArray, List.getElem?_cons_zero, List.getElem?_cons_succ] at hP_c0 hP_c1 hP_c2
        replace hW := hW.but hbm (by rintro ⟨he, hp⟩; have h1 := (C4 hp); omega)
        (try clear hW_c0); (try clear hW_f0)
        (try clear hW_c1); (try clear hW_f1)
        (try clear hW_c2); (try clear hW_f2)
        (try clear hW_c3); (try clear hW_f3)
        (try clear hW_c4); (try clear hW_f4)
        (try clear hW_c5); (try clear hW_f5)
        (try clear hW_lt)
        have hW_lt := hW.lt; (try simp only [World.size_alloc] at hW_lt)
        have hW_c0 := hW.cell 0; have hW_f0 := hW.frozen 0
        have hW_c1 := hW.cell 1; have hW_f1 := hW.frozen 1
        have hW_c2 := hW.cell 2; have hW_f2 := hW.frozen 2
        have hW_c3 := hW.cell 3; have hW_f3 := hW.frozen 3
        have hW_c4 := hW.cell 4; have hW_f4 := hW.frozen 4
        have hW_c5 := hW.cell 5; have hW_f5 := hW.frozen 5
        simp only [List.getElem?_toArray, List.getElem?_cons_zero, List.getElem?_cons_succ] at hW_c0 hW_c1 hW_c2 hW_c3 hW_c4 hW_c5
        replace hO4 := hO4.but hbm (by rintro ⟨he, hp⟩; have h1 := (C4 hp); omega)
        (try clear hO4_c0); (try clear hO4_f0)
        (try clear hO4_c1); (try clear hO4_f1)
        (try clear hO4_c2); (try clear hO4_f2)
        (try clear hO4_lt)
        have hO4_lt := hO4.lt; (try simp only [World.size_alloc] at hO4_lt)
        have hO4_c0 := hO4.cell 0; have hO4_f0 := hO4.frozen 0
        have hO4_c1 := hO4.cell 1; have hO4_f1 := hO4.frozen 1
        have hO4_c2 := hO4.cell 2; have hO4_f2 := hO4.frozen 2
        simp only [List.getElem?_toArray, List.getElem?_cons_zero, List.getElem?_cons_succ] at hO4_c0 hO4_c1 hO4_c2
        replace hO7 := hO7.but hbm (by rintro ⟨he, hp⟩; have h1 := (C4 hp); omega)
        (try clear hO7_c0); (try clear hO7_f0)
        (try clear hO7_c1); (try clear hO7_f1)
        (try clear hO7_c2); (try clear hO7_f2)
        (try clear hO7_lt)
        have hO7_lt := hO7.lt; (try simp only [World.size_alloc] at hO7_lt)
        have hO7_c0 := hO7.cell 0; have hO7_f0 := hO7.frozen 0
        have hO7_c1 := hO7.cell 1; have hO7_f1 := hO7.frozen 1
        have hO7_c2 := hO7.cell 2; have hO7_f2 := hO7.frozen 2
        simp only [List.getElem?_toArray, List.getElem?_cons_zero, List.getElem?_cons_succ] at hO7_c0 hO7_c1 hO7_c2
        replace hO8 := hO8.but hbm (by rintro ⟨he, hp⟩; have h1 := (C4 hp); omega)
        (try clear hO8_c0); (try clear hO8_f0)
        (try clear hO8_c1); (try clear hO8_f1)
        (try clear hO8_c2); (try clear hO8_f2)
        (try clear hO8_lt)
        have hO8_lt := hO8.lt; (try simp only [World.size_alloc] at hO8_lt)
        have hO8_c0 := hO8.cell 0; have hO8_f0 := hO8.frozen 0
        have hO8_c1 := hO8.cell 1; have hO8_f1 := hO8.frozen 1
        have hO8_c2 := hO8.cell 2; have hO8_f2 := hO8.frozen 2
        simp only [List.getElem?_toArray, List.getElem?_cons_zero, List.getElem?_cons_succ] at hO8_c0 hO8_c1 hO8_c2
        replace hX := hX.but_lt hbm (by rintro k ⟨he, hp⟩; have h1 := (C4 hp); omega)
        replace my3 := my3.but_ hbm (by intro hq; rintro ⟨he, hp⟩; have h1 := (C4 hp); have h2 := ly3 hq; omega)
        replace my5 := my5.but_ hbm (by intro hq; rintro ⟨he, hp⟩; have h1 := (C4 hp); have h2 := ly5 hq; omega)
        have hB10 : Below w.heap.size w w10 := hB9.trans (hbm.below (by rintro k ⟨he, hp⟩; have h1 := (C4 hp); omega) hsw9)
        have hsw10 := hB10.size
        have hs910 := hbm.size
        clear hbm m4 hk4
        clear ly3 hn3 C4 ly5 hn5 ay5
        have q1 : decide ((1 : Int) + (xs.length : Int) * 6 < 0) = false := by simp; omega
        have q2 : decide ((1 : Int) + ((uY ea cr xs y).length : Int) * 6 < 0) = false := by simp; omega
        go_wp2_with fail
        refine (eqRg_MR _ _ c5 c3 my5.seq my3.seq hyl2).mono ?_
        rintro x w11 ⟨rfl, hb11⟩
        replace hP := hP.below hb11 (by first | omega | exact hP.lt | (simp; done) | (simp; omega))
        (try clear hP_c0); (try clear hP_f0)
        (try clear hP_c1); (try clear hP_f1)
        (try clear hP_c2); (try clear hP_f2)
        (try clear hP_lt)
        have hP_lt := hP.lt; (try simp only [World.size_alloc] at hP_lt)
        have hP_c0 := hP.cell 0; have hP_f0 := hP.frozen 0
        have hP_c1 := hP.cell 1; have hP_f1 := hP.frozen 1
        have hP_c2 := hP.cell 2; have hP_f2 := hP.frozen 2
        simp only [List.getElem?_toArray, List.getElem?_cons_zero, List.getElem?_cons_succ] at hP_c0 hP_c1 hP_c2
        replace hW := hW.below hb11 (by first | omega | exact hW.lt | (simp; done) | (simp; omega))
        (try clear hW_c0); (try clear hW_f0)
        (try clear hW_c1); (try clear hW_f1)
        (try clear hW_c2); (try clear hW_f2)
        (try clear hW_c3); (try clear hW_f3)
        (try clear hW_c4); (try clear hW_f4)
        (try clear hW_c5); (try clear hW_f5)
        (try clear hW_lt)
        have hW_lt := hW.lt; (try simp only [World.size_alloc] at hW_lt)
        have hW_c0 := hW.cell 0; have hW_f0 := hW.frozen 0
        have hW_c1 := hW.cell 1; have hW_f1 := hW.frozen 1
        have hW_c2 := hW.cell 2; have hW_f2 := hW.frozen 2
        have hW_c3 := hW.cell 3; have hW_f3 := hW.frozen 3
        have hW_c4 := hW.cell 4; have hW_f4 := hW.frozen 4
        have hW_c5 := hW.cell 5; have hW_f5 := hW.frozen 5
        simp only [List.getElem?_toArray, List.getElem?_cons_zero, List.getElem?_cons_succ] at hW_c0 hW_c1 hW_c2 hW_c3 hW_c4 hW_c5
        replace hO4 := hO4.below hb11 (by first | omega | exact hO4.lt | (simp; done) | (simp; omega))
        (try clear hO4_c0); (try clear hO4_f0)
        (try clear hO4_c1); (try clear hO4_f1)
        (try clear hO4_c2); (try clear hO4_f2)
        (try clear hO4_lt)
        have hO4_lt := hO4.lt; (try simp only [World.size_alloc] at hO4_lt)
        have hO4_c0 := hO4.cell 0; have hO4_f0 := hO4.frozen 0
        have hO4_c1 := hO4.cell 1; have hO4_f1 := hO4.frozen 1
        have hO4_c2 := hO4.cell 2; have hO4_f2 := hO4.frozen 2
        simp only [List.getElem?_toArray, List.getElem?_cons_zero, List.getElem?_cons_succ] at hO4_c0 hO4_c1 hO4_c2
        replace hO7 := hO7.below hb11 (by first | omega | exact hO7.lt | (simp; done) | (simp; omega))
        (try clear hO7_c0); (try clear hO7_f0)
        (try clear hO7_c1); (try clear hO7_f1)
        (try clear hO7_c2); (try clear hO7_f2)
        (try clear hO7_lt)
        have hO7_lt := hO7.lt; (try simp only [World.size_alloc] at hO7_lt)
        have hO7_c0 := hO7.cell 0; have hO7_f0 := hO7.frozen 0
        have hO7_c1 := hO7.cell 1; have hO7_f1 := hO7.frozen 1
        have hO7_c2 := hO7.cell 2; have hO7_f2 := hO7.frozen 2
        simp only [List.getElem?_toArray, List.getElem?_cons_zero, List.getElem?_cons_succ] at hO7_c0 hO7_c1 hO7_c2
        replace hO8 := hO8.below hb11 (by first | omega | exact hO8.lt | (simp; done) | (simp; omega))
        (try clear hO8_c0); (try clear hO8_f0)
        (try clear hO8_c1); (try clear hO8_f1)
        (try clear hO8_c2); (try clear hO8_f2)
        (try clear hO8_lt)
        have hO8_lt := hO8.lt; (try simp only [World.size_alloc] at hO8_lt)
        have hO8_c0 := hO8.cell 0; have hO8_f0 := hO8.frozen 0
        have hO8_c1 := hO8.cell 1; have hO8_f1 := hO8.frozen 1
        have hO8_c2 := hO8.cell 2; have hO8_f2 := hO8.frozen 2
        simp only [List.getElem?_toArray, List.getElem?_cons_zero, List.getElem?_cons_succ] at hO8_c0 hO8_c1 hO8_c2
        replace hX := hX.below (hb11.mono hsw10)
        replace my3 := my3.below_ hb11
        replace my5 := my5.below_ hb11
        have hB11 : Below w.heap.size w w11 := hB10.trans (hb11.mono hsw10)
        have hsw11 := hB11.size
        clear hb11
        go_wp2_with fail
        refine (markRg_MR _ _ c5 1 my5 hyl2 (by omega) (by omega)).mono ?_
        rintro x w12 ⟨rfl, hky, hbm⟩
        obtain ⟨ly3, hn3⟩ := HF3.out
        obtain ⟨ly5, hn5, ay5⟩ := HF5.out
        have CY : 0 < (uY ea cr xs y).length → (w4.heap.size + 1 ≤ g5 ∧ g5 < w5.heap.size) ∧ g5 ≠ b5 := fun hp => ⟨ly5 hp, hn5 hp⟩
        replace hP := hP.but hbm (by rintro ⟨he, hp⟩; have h1 := (CY hp); omega)
        (try clear hP_c0); (try clear hP_f0)
        (try clear hP_c1); (try clear hP_f1)
        (try clear hP_c2); (try clear hP_f2)
        (try clear hP_lt)
        have hP_lt := hP.lt; (try simp only [World.size_alloc] at hP_lt)
        have hP_c0 := hP.cell 0; have hP_f0 := hP.frozen 0
        have hP_c1 := hP.cell 1; have hP_f1 := hP.frozen 1
        have hP_c2 := hP.cell 2; have hP_f2 := hP.frozen 2
        simp only [List.getElem?_toArray, List.getElem?_cons_zero, List.getElem?_cons_succ] at hP_c0 hP_c1 hP_c2
        replace hW := hW.but hbm (by rintro ⟨he, hp⟩; have h1 := (CY hp); omega)
        (try clear hW_c0); (try clear hW_f0)
        (try clear hW_c1); (try clear hW_f1)
        (try clear hW_c2); (try clear hW_f2)
        (try clear hW_c3); (try clear hW_f3)
        (try clear hW_c4); (try clear hW_f4)
        (try clear hW_c5); (try clear hW_f5)
        (try clear hW_lt)
        have hW_lt := hW.lt; (try simp only [World.size_alloc] at hW_lt)
        have hW_c0 := hW.cell 0; have hW_f0 := hW.frozen 0
        have hW_c1 := hW.cell 1; have hW_f1 := hW.frozen 1
        have hW_c2 := hW.cell 2; have hW_f2 := hW.frozen 2
        have hW_c3 := hW.cell 3; have hW_f3 := hW.frozen 3
        have hW_c4 := hW.cell 4; have hW_f4 := hW.frozen 4
        have hW_c5 := hW.cell 5; have hW_f5 := hW.frozen 5
        simp only [List.getElem?_toArray, List.getElem?_cons_zero, List.getElem?_cons_succ] at hW_c0 hW_c1 hW_c2 hW_c3 hW_c4 hW_c5
        replace hO4 := hO4.but hbm (by rintro ⟨he, hp⟩; have h1 := (CY hp); omega)
        (try clear hO4_c0); (try clear hO4_f0)
        (try clear hO4_c1); (try clear hO4_f1)
        (try clear hO4_c2); (try clear hO4_f2)
        (try clear hO4_lt)
        have hO4_lt := hO4.lt; (try simp only [World.size_alloc] at hO4_lt)
        have hO4_c0 := hO4.cell 0; have hO4_f0 := hO4.frozen 0
        have hO4_c1 := hO4.cell 1; have hO4_f1 := hO4.frozen 1
        have hO4_c2 := hO4.cell 2; have hO4_f2 := hO4.frozen 2
        simp only [List.getElem?_toArray, List.getElem?_cons_zero, List.getElem?_cons_succ] at hO4_c0 hO4_c1 hO4_c2
        replace hO7 := hO7.but hbm (by rintro ⟨he, hp⟩; have h1 := (CY hp); omega)
        (try clear hO7_c0); (try clear hO7_f0)
        (try clear hO7_c1); (try clear hO7_f1)
        (try clear hO7_c2); (try clear hO7_f2)
        (try clear hO7_lt)
        have hO7_lt := hO7.lt; (try simp only [World.size_alloc] at hO7_lt)
        have hO7_c0 := hO7.cell 0; have hO7_f0 := hO7.frozen 0
        have hO7_c1 := hO7.cell 1; have hO7_f1 := hO7.frozen 1
        have hO7_c2 := hO7.cell 2; have hO7_f2 := hO7.frozen 2
        simp only [List.getElem?_toArray, List.getElem?_cons_zero, List.getElem?_cons_succ] at hO7_c0 hO7_c1 hO7_c2
        replace hO8 := hO8.but hbm (by rintro ⟨he, hp⟩; have h1 := (CY hp); omega)
        (try clear hO8_c0); (try clear hO8_f0)
        (try clear hO8_c1); (try clear hO8_f1)
        (try clear hO8_c2); (try clear hO8_f2)
        (try clear hO8_lt)
        have hO8_lt := hO8.lt; (try simp only [World.size_alloc] at hO8_lt)
        have hO8_c0 := hO8.cell 0; have hO8_f0 := hO8.frozen 0
        have hO8_c1 := hO8.cell 1; have hO8_f1 := hO8.frozen 1
        have hO8_c2 := hO8.cell 2; have hO8_f2 := hO8.frozen 2
        simp only [List.getElem?_toArray, List.getElem?_cons_zero, List.getElem?_cons_succ] at hO8_c0 hO8_c1 hO8_c2
        replace hX := hX.but_lt hbm (by rintro k ⟨he, hp⟩; have h1 := (CY hp); omega)
        replace my3 := my3.but_ hbm (by intro hq; rintro ⟨he, hp⟩; have h1 := (CY hp); have h2 := ly3 hq; omega)
        have hB12 : Below w.heap.size w w12 := hB11.trans (hbm.below (by rintro k ⟨he, hp⟩; have h1 := (CY hp); omega) hsw11)
        have hsw12 := hB12.size
        clear hbm my5 ly3 hn3 ly5 hn5 ay5 CY
        go_wp2_with fail
        refine (heldRg_MK _ _ c5 1 hky HA5.out hyl2 (by omega) (by omega)).mono ?_
        rintro x w13 ⟨rfl, hb13⟩
        replace hP := hP.below hb13 (by first | omega | exact hP.lt | (simp; done) | (simp; omega))
        (try clear hP_c0); (try clear hP_f0)
        (try clear hP_c1); (try clear hP_f1)
        (try clear hP_c2); (try clear hP_f2)
        (try clear hP_lt)
        have hP_lt := hP.lt; (try simp only [World.size_alloc] at hP_lt)
        have hP_c0 := hP.cell 0; have hP_f0 := hP.frozen 0
        have hP_c1 := hP.cell 1; have hP_f1 := hP.frozen 1
        have hP_c2 := hP.cell 2; have hP_f2 := hP.frozen 2
        simp only [List.getElem?_toArray, List.getElem?_cons_zero, List.getElem?_cons_succ] at hP_c0 hP_c1 hP_c2
        replace hW := hW.below hb13 (by first | omega | exact hW.lt | (simp; done) | (simp; omega))
        (try clear hW_c0); (try clear hW_f0)
        (try clear hW_c1); (try clear hW_f1)
        (try clear hW_c2); (try clear hW_f2)
        (try clear hW_c3); (try clear hW_f3)
        (try clear hW_c4); (try clear hW_f4)
        (try clear hW_c5); (try clear hW_f5)
        (try clear hW_lt)
        have hW_lt := hW.lt; (try simp only [World.size_alloc] at hW_lt)
        have hW_c0 := hW.cell 0; have hW_f0 := hW.frozen 0
        have hW_c1 := hW.cell 1; have hW_f1 := hW.frozen 1
        have hW_c2 := hW.cell 2; have hW_f2 := hW.frozen 2
        have hW_c3 := hW.cell 3; have hW_f3 := hW.frozen 3
        have hW_c4 := hW.cell 4; have hW_f4 := hW.frozen 4
        have hW_c5 := hW.cell 5; have hW_f5 := hW.frozen 5
        simp only [List.getElem?_toArray, List.getElem?_cons_zero, List.getElem?_cons_succ] at hW_c0 hW_c1 hW_c2 hW_c3 hW_c4 hW_c5
        replace hO4 := hO4.below hb13 (by first | omega | exact hO4.lt | (simp; done) | (simp; omega))
        (try clear hO4_c0); (try clear hO4_f0)
        (try clear hO4_c1); (try clear hO4_f1)
        (try clear hO4_c2); (try clear hO4_f2)
        (try clear hO4_lt)
        have hO4_lt := hO4.lt; (try simp only [World.size_alloc] at hO4_lt)
        have hO4_c0 := hO4.cell 0; have hO4_f0 := hO4.frozen 0
        have hO4_c1 := hO4.cell 1; have hO4_f1 := hO4.frozen 1
        have hO4_c2 := hO4.cell 2; have hO4_f2 := hO4.frozen 2
        simp only [List.getElem?_toArray, List.getElem?_cons_zero, List.getElem?_cons_succ] at hO4_c0 hO4_c1 hO4_c2
        replace hO7 := hO7.below hb13 (by first | omega | exact hO7.lt | (simp; done) | (simp; omega))
        (try clear hO7_c0); (try clear hO7_f0)
        (try clear hO7_c1); (try clear hO7_f1)
        (try clear hO7_c2); (try clear hO7_f2)
        (try clear hO7_lt)
        have hO7_lt := hO7.lt; (try simp only [World.size_alloc] at hO7_lt)
        have hO7_c0 := hO7.cell 0; have hO7_f0 := hO7.frozen 0
        have hO7_c1 := hO7.cell 1; have hO7_f1 := hO7.frozen 1
        have hO7_c2 := hO7.cell 2; have hO7_f2 := hO7.frozen 2
        simp only [List.getElem?_toArray, List.getElem?_cons_zero, List.getElem?_cons_succ] at hO7_c0 hO7_c1 hO7_c2
        replace hO8 := hO8.below hb13 (by first | omega | exact hO8.lt | (simp; done) | (simp; omega))
        (try clear hO8_c0); (try clear hO8_f0)
        (try clear hO8_c1); (try clear hO8_f1)
        (try clear hO8_c2); (try clear hO8_f2)
        (try clear hO8_lt)
        have hO8_lt := hO8.lt; (try simp only [World.size_alloc] at hO8_lt)
        have hO8_c0 := hO8.cell 0; have hO8_f0 := hO8.frozen 0
        have hO8_c1 := hO8.cell 1; have hO8_f1 := hO8.frozen 1
        have hO8_c2 := hO8.cell 2; have hO8_f2 := hO8.frozen 2
        simp only [List.getElem?_toArray, List.getElem?_cons_zero, List.getElem?_cons_succ] at hO8_c0 hO8_c1 hO8_c2
        replace hX := hX.below (hb13.mono hsw12)
        replace my3 := my3.below_ hb13
        replace hky := hky.below_ hb13
        have hB13 : Below w.heap.size w w13 := hB12.trans (hb13.mono hsw12)
        have hsw13 := hB13.size
        clear hb13
        go_wp2_with fail
        refine wp_region_dep JAS JAT (fun _ => True) [] (fun _ w' => Below w13.heap.size w13 w') JAR (JA w13.heap.size ea cr A xs.length c xs y (uE ea cr xs y) (uC ea cr xs y) (uY ea cr xs y) (uB ea cr xs y)) (by kernel_rfl) (by kernel_rfl) (by kernel_rfl) (Below.drew (Below.refl _ _)) trivial (by kernel_rfl) (fun i j x v w hij hl h => JA.loc i j x v w hij (fun h9 h8 => by subst h9 h8; exact absurd (show false = true from hl.symm.trans (by kernel_rfl)) (by decide)) h) JA.mono (fun _ _ _ _ _ _ => trivial) ⟨?_, ?_, ?_, ?_, ?_, ?_, ?_, ?_, ?_, ?_, ?_, trivial⟩ ?_
        · intro m z wv hm hb hd hz
          have hq := hP.below hb hP.lt
          (try clear hq_c0); (try clear hq_f0)
          (try clear hq_c1); (try clear hq_f1)
          (try clear hq_c2); (try clear hq_f2)
          (try clear hq_lt)
          have hq_lt := hq.lt; (try simp only [World.size_alloc] at hq_lt)
          have hq_c0 := hq.cell 0; have hq_f0 := hq.frozen 0
          have hq_c1 := hq.cell 1; have hq_f1 := hq.frozen 1
          have hq_c2 := hq.cell 2; have hq_f2 := hq.frozen 2
          simp only [List.getElem?_toArray, List.getElem?_cons_zero, List.getElem?_cons_succ] at hq_c0 hq_c1 hq_c2
          have HB := Lib.hid hb
          clear hm hd hb hz
          refine ⟨?_⟩
          simp only [fill, Act.put, List.setIfInBounds_toArray, List.set_cons_zero, List.set_cons_succ]
          go_simp
          exact ⟨Below.refl _ _, HB.out, by simp [JA, upd]⟩
        · intro m z wv hm hb hd hz
          have d0 := hd { on := 0, ground := .data } (by simp) (by kernel_rfl) (by kernel_rfl)
          replace d0 : z 0 = .agg #[.int .i64 ea, .int .i64 cr, .slice A xs.length c] := d0
          have HX := Lib.hid (hX.below (hb.mono hsw13))
          have hbs := hb.size
          have hle : w.heap.size ≤ wv.heap.size := by omega
          have HB := Lib.hid hb
          clear hm hd hb hz
          refine ⟨?_⟩
          simp only [fill, Act.put, List.setIfInBounds_toArray, List.set_cons_zero, List.set_cons_succ]
          go_simp
          refine (toRg_MR ea cr A xs.length c w.heap.size xs wv HX.out hle hn21).mono ?_
          rintro e w2 ⟨g, rfl, m2, hb2⟩
          exact ⟨hb2, HB.out.trans (hb2.mono hbs), g, by simp [upd], m2.le_ hbs⟩
        · intro m z wv hm hb hd hz
          have hq := hW.below hb hW.lt
          (try clear hq_c0); (try clear hq_f0)
          (try clear hq_c1); (try clear hq_f1)
          (try clear hq_c2); (try clear hq_f2)
          (try clear hq_c3); (try clear hq_f3)
          (try clear hq_c4); (try clear hq_f4)
          (try clear hq_c5); (try clear hq_f5)
          (try clear hq_lt)
          have hq_lt := hq.lt; (try simp only [World.size_alloc] at hq_lt)
          have hq_c0 := hq.cell 0; have hq_f0 := hq.frozen 0
          have hq_c1 := hq.cell 1; have hq_f1 := hq.frozen 1
          have hq_c2 := hq.cell 2; have hq_f2 := hq.frozen 2
          have hq_c3 := hq.cell 3; have hq_f3 := hq.frozen 3
          have hq_c4 := hq.cell 4; have hq_f4 := hq.frozen 4
          have hq_c5 := hq.cell 5; have hq_f5 := hq.frozen 5
          simp only [List.getElem?_toArray, List.getElem?_cons_zero, List.getElem?_cons_succ] at hq_c0 hq_c1 hq_c2 hq_c3 hq_c4 hq_c5
          have HB := Lib.hid hb
          clear hm hd hb hz
          refine ⟨?_⟩
          simp only [fill, Act.put, List.setIfInBounds_toArray, List.set_cons_zero, List.set_cons_succ]
          go_simp
          exact ⟨Below.refl _ _, HB.out, by simp [JA, upd]⟩
        · intro m z wv hm hb hd hz
          have d2 := hd { on := 2, ground := .data } (by simp) (by kernel_rfl) (by kernel_rfl)
          replace d2 : z 2 = .agg #[.int .i64 y.wi, .int .i64 y.ti, .int .i64 y.la, .int .i64 y.si, .bool y.ky, .bool y.en] := d2
          have hbs := hb.size
          have HB := Lib.hid hb
          clear hm hd hb hz
          refine ⟨?_⟩
          simp only [fill, Act.put, List.setIfInBounds_toArray, List.set_cons_zero, List.set_cons_succ]
          go_simp
          refine (toPacket_any y wv).mono ?_
          rintro e w2 ⟨rfl, hb2⟩
          exact ⟨hb2, HB.out.trans (hb2.mono hbs), by simp [JA, upd]⟩
        · intro m z wv hm hb hd hz
          have d1 := hd { on := 1, ground := .data } (by simp) (by kernel_rfl) (by kernel_rfl)
          obtain ⟨g, d1, m2⟩ := d1
          have d3 := hd { on := 3, ground := .data } (by simp) (by kernel_rfl) (by kernel_rfl)
          replace d3 : z 3 = .agg #[.int .i64 y.wi, .int .i64 y.ti, .int .i64 y.la, .int .i64 y.si, .bool y.ky, .bool y.en] := d3
          have HM := Lib.hid m2
          clear m2
          have hbs := hb.size
          have HB := Lib.hid hb
          clear hm hd hb hz
          refine ⟨?_⟩
          simp only [fill, Act.put, List.setIfInBounds_toArray, List.set_cons_zero, List.set_cons_succ]
          go_simp
          refine (iputQ_all ea cr (some ⟨g, 0, none⟩) xs.length xs.length xs y wv HM.out.seq hn40 (Nat.le_refl _) (by omega)).mono ?_
          rintro e w2 ⟨A', c', g', cs', rfl, m3, hb2⟩
          exact ⟨hb2, HB.out.trans (hb2.mono hbs), A', c', g', cs', by simp [upd], m3.le_ hbs⟩
        · intro m z wv hm hb hd hz
          have d4 := hd { on := 4, ground := .data } (by simp) (by kernel_rfl) (by kernel_rfl)
          obtain ⟨A', c', g', cs', d4, m3⟩ := d4
          have HM := Lib.hid m3
          clear m3
          have HB := Lib.hid hb
          clear hm hd hb hz
          refine ⟨?_⟩
          simp only [fill, Act.put, List.setIfInBounds_toArray, List.set_cons_zero, List.set_cons_succ]
          go_simp
          exact ⟨Below.refl _ _, HB.out, A', c', g', cs', by simp [upd], HM.out⟩
        · intro m z wv hm hb hd hz
          have d5 := hd { on := 5, ground := .data } (by simp) (by kernel_rfl) (by kernel_rfl)
          obtain ⟨A', c', g', cs', d5, m3⟩ := d5
          have HM := Lib.hid m3
          clear m3
          have HB := Lib.hid hb
          clear hm hd hb hz
          refine ⟨?_⟩
          simp only [fill, Act.put, List.setIfInBounds_toArray, List.set_cons_zero, List.set_cons_succ]
          go_simp
          exact ⟨Below.refl _ _, HB.out, A', c', g', cs', by simp [upd], HM.out⟩
        · intro m z wv hm hb hd hz
          have d5 := hd { on := 5, ground := .data } (by simp) (by kernel_rfl) (by kernel_rfl)
          obtain ⟨A', c', g', cs', d5, m3⟩ := d5
          clear m3
          have HB := Lib.hid hb
          clear hm hd hb hz
          refine ⟨?_⟩
          simp only [fill, Act.put, List.setIfInBounds_toArray, List.set_cons_zero, List.set_cons_succ]
          go_simp
          exact ⟨Below.refl _ _, HB.out, by simp [JA, upd]⟩
        · intro m z wv hm hb hd hz
          have hbs := hb.size
          have HB := Lib.hid hb
          clear hm hd hb hz
          refine ⟨?_⟩
          simp only [fill, Act.put, List.setIfInBounds_toArray, List.set_cons_zero, List.set_cons_succ]
          go_simp
          exact ⟨(Below.refl _ _).alloc (Nat.le_refl _) _, HB.out.alloc hbs _, _, by simp [upd], hbs, Bk.new _ _ _⟩
        · intro m z wv hm hb hd hz
          have d8 := hd { on := 8, ground := .data } (by simp) (by kernel_rfl) (by kernel_rfl)
          obtain ⟨b, d8, hbN, hbk⟩ := d8
          have d6 := hd { on := 6, ground := .data } (by simp) (by kernel_rfl) (by kernel_rfl)
          obtain ⟨A', c', g', cs', d6, m3⟩ := d6
          have ho : Only b wv (((wv.setCell ⟨b, 0, none⟩ (.int .i64 (uE ea cr xs y))).setCell ⟨b, 1, none⟩ (.int .i64 (uC ea cr xs y))).setCell ⟨b, 2, none⟩ (.slice A' (uY ea cr xs y).length c')) := (((Only.refl b wv).setCell (p := ⟨b, 0, none⟩) (.inl rfl) _).setCell (p := ⟨b, 1, none⟩) (.inl rfl) _).setCell (p := ⟨b, 2, none⟩) (.inl rfl) _
          have hk := ((hbk.set_ 0 (.int .i64 (uE ea cr xs y))).set_ 1 (.int .i64 (uC ea cr xs y))).set_ 2 (.slice A' (uY ea cr xs y).length c')
          simp only [List.setIfInBounds_toArray, List.set_cons_zero, List.set_cons_succ] at hk
          obtain ⟨m5, hne⟩ := m3.store hbk ho
          have HK := Lib.hid hk
          have HM := Lib.hid m5
          have HNE := Lib.hid hne
          have HBF := Lib.hid (hb.trans (ho.below hbN hb.size))
          have HR := Lib.hid (show ∃ b' k0 k1 k2, Bk wv b' 25 #[k0, k1, k2] ∧ Only b' wv (((wv.setCell ⟨b, 0, none⟩ (.int .i64 (uE ea cr xs y))).setCell ⟨b, 1, none⟩ (.int .i64 (uC ea cr xs y))).setCell ⟨b, 2, none⟩ (.slice A' (uY ea cr xs y).length c')) from ⟨b, _, _, _, hbk, ho⟩)
          (try clear hbk_c0); (try clear hbk_f0)
          (try clear hbk_c1); (try clear hbk_f1)
          (try clear hbk_c2); (try clear hbk_f2)
          (try clear hbk_lt)
          have hbk_lt := hbk.lt; (try simp only [World.size_alloc] at hbk_lt)
          have hbk_c0 := hbk.cell 0; have hbk_f0 := hbk.frozen 0
          have hbk_c1 := hbk.cell 1; have hbk_f1 := hbk.frozen 1
          have hbk_c2 := hbk.cell 2; have hbk_f2 := hbk.frozen 2
          simp only [List.getElem?_toArray, List.getElem?_cons_zero, List.getElem?_cons_succ] at hbk_c0 hbk_c1 hbk_c2
          clear hk m5 hne ho m3
          have HB := Lib.hid hb
          clear hm hd hb hz
          refine ⟨?_⟩
          simp only [fill, Act.put, List.setIfInBounds_toArray, List.set_cons_zero, List.set_cons_succ]
          go_simp
          exact ⟨HR.out, HBF.out, undef, b, A', c', g', cs', by simpa [upd] using d8, hbN, HK.out, HM.out, HNE.out⟩
        · intro m z wv hm hb hd hz
          have d7 := hd { on := 7, ground := .data } (by simp) (by kernel_rfl) (by kernel_rfl)
          replace d7 : z 7 = .bool (uB ea cr xs y) := d7
          have HB := Lib.hid hb
          clear hm hd hb hz
          refine ⟨?_⟩
          simp only [fill, Act.put, List.setIfInBounds_toArray, List.set_cons_zero, List.set_cons_succ]
          go_simp
          exact ⟨Below.refl _ _, HB.out, by simp [JA, upd]⟩
        · intro z w14 hb14 hI
          obtain ⟨b14, A14, c14, g14, cs14, hz8, hbN14, hO14, my14, hn14⟩ := hI 9 (by decide) rfl
          have hz10 : z 10 = .bool (uB ea cr xs y) := hI 10 (by decide) rfl
          clear hI hn14
          replace hP := hP.below hb14 (by first | omega | exact hP.lt | (simp; done) | (simp; omega))
          (try clear hP_c0); (try clear hP_f0)
          (try clear hP_c1); (try clear hP_f1)
          (try clear hP_c2); (try clear hP_f2)
          (try clear hP_lt)
          have hP_lt := hP.lt; (try simp only [World.size_alloc] at hP_lt)
          have hP_c0 := hP.cell 0; have hP_f0 := hP.frozen 0
          have hP_c1 := hP.cell 1; have hP_f1 := hP.frozen 1
          have hP_c2 := hP.cell 2; have hP_f2 := hP.frozen 2
          simp only [List.getElem?_toArray, List.getElem?_cons_zero, List.getElem?_cons_succ] at hP_c0 hP_c1 hP_c2
          replace hW := hW.below hb14 (by first | omega | exact hW.lt | (simp; done) | (simp; omega))
          (try clear hW_c0); (try clear hW_f0)
          (try clear hW_c1); (try clear hW_f1)
          (try clear hW_c2); (try clear hW_f2)
          (try clear hW_c3); (try clear hW_f3)
          (try clear hW_c4); (try clear hW_f4)
          (try clear hW_c5); (try clear hW_f5)
          (try clear hW_lt)
          have hW_lt := hW.lt; (try simp only [World.size_alloc] at hW_lt)
          have hW_c0 := hW.cell 0; have hW_f0 := hW.frozen 0
          have hW_c1 := hW.cell 1; have hW_f1 := hW.frozen 1
          have hW_c2 := hW.cell 2; have hW_f2 := hW.frozen 2
          have hW_c3 := hW.cell 3; have hW_f3 := hW.frozen 3
          have hW_c4 := hW.cell 4; have hW_f4 := hW.frozen 4
          have hW_c5 := hW.cell 5; have hW_f5 := hW.frozen 5
          simp only [List.getElem?_toArray, List.getElem?_cons_zero, List.getElem?_cons_succ] at hW_c0 hW_c1 hW_c2 hW_c3 hW_c4 hW_c5
          replace hO4 := hO4.below hb14 (by first | omega | exact hO4.lt | (simp; done) | (simp; omega))
          (try clear hO4_c0); (try clear hO4_f0)
          (try clear hO4_c1); (try clear hO4_f1)
          (try clear hO4_c2); (try clear hO4_f2)
          (try clear hO4_lt)
          have hO4_lt := hO4.lt; (try simp only [World.size_alloc] at hO4_lt)
          have hO4_c0 := hO4.cell 0; have hO4_f0 := hO4.frozen 0
          have hO4_c1 := hO4.cell 1; have hO4_f1 := hO4.frozen 1
          have hO4_c2 := hO4.cell 2; have hO4_f2 := hO4.frozen 2
          simp only [List.getElem?_toArray, List.getElem?_cons_zero, List.getElem?_cons_succ] at hO4_c0 hO4_c1 hO4_c2
          replace hO7 := hO7.below hb14 (by first | omega | exact hO7.lt | (simp; done) | (simp; omega))
          (try clear hO7_c0); (try clear hO7_f0)
          (try clear hO7_c1); (try clear hO7_f1)
          (try clear hO7_c2); (try clear hO7_f2)
          (try clear hO7_lt)
          have hO7_lt := hO7.lt; (try simp only [World.size_alloc] at hO7_lt)
          have hO7_c0 := hO7.cell 0; have hO7_f0 := hO7.frozen 0
          have hO7_c1 := hO7.cell 1; have hO7_f1 := hO7.frozen 1
          have hO7_c2 := hO7.cell 2; have hO7_f2 := hO7.frozen 2
          simp only [List.getElem?_toArray, List.getElem?_cons_zero, List.getElem?_cons_succ] at hO7_c0 hO7_c1 hO7_c2
          replace hO8 := hO8.below hb14 (by first | omega | exact hO8.lt | (simp; done) | (simp; omega))
          (try clear hO8_c0); (try clear hO8_f0)
          (try clear hO8_c1); (try clear hO8_f1)
          (try clear hO8_c2); (try clear hO8_f2)
          (try clear hO8_lt)
          have hO8_lt := hO8.lt; (try simp only [World.size_alloc] at hO8_lt)
          have hO8_c0 := hO8.cell 0; have hO8_f0 := hO8.frozen 0
          have hO8_c1 := hO8.cell 1; have hO8_f1 := hO8.frozen 1
          have hO8_c2 := hO8.cell 2; have hO8_f2 := hO8.frozen 2
          simp only [List.getElem?_toArray, List.getElem?_cons_zero, List.getElem?_cons_succ] at hO8_c0 hO8_c1 hO8_c2
          replace hX := hX.below (hb14.mono hsw13)
          replace my3 := my3.below_ hb14
          replace hky := hky.below_ hb14
          have hB14 : Below w.heap.size w w14 := hB13.trans (hb14.mono hsw13)
          have hsw14 := hB14.size
          clear hb14
          (try clear hO14_c0); (try clear hO14_f0)
          (try clear hO14_c1); (try clear hO14_f1)
          (try clear hO14_c2); (try clear hO14_f2)
          (try clear hO14_lt)
          have hO14_lt := hO14.lt; (try simp only [World.size_alloc] at hO14_lt)
          have hO14_c0 := hO14.cell 0; have hO14_f0 := hO14.frozen 0
          have hO14_c1 := hO14.cell 1; have hO14_f1 := hO14.frozen 1
          have hO14_c2 := hO14.cell 2; have hO14_f2 := hO14.frozen 2
          simp only [List.getElem?_toArray, List.getElem?_cons_zero, List.getElem?_cons_succ] at hO14_c0 hO14_c1 hO14_c2
          refine ⟨?_⟩
          simp only [fill, Act.put, List.setIfInBounds_toArray, List.set_cons_zero, List.set_cons_succ, hz8, hz10]
          clear hz8 hz10
          go_wp2_with fail
          refine (eqRg_MR _ _ c14 c3 my14.seq my3.seq hyl2).mono ?_
          rintro x w15 ⟨rfl, hb15⟩
          replace hP := hP.below hb15 (by first | omega | exact hP.lt | (simp; done) | (simp; omega))
          (try clear hP_c0); (try clear hP_f0)
          (try clear hP_c1); (try clear hP_f1)
          (try clear hP_c2); (try clear hP_f2)
          (try clear hP_lt)
          have hP_lt := hP.lt; (try simp only [World.size_alloc] at hP_lt)
          have hP_c0 := hP.cell 0; have hP_f0 := hP.frozen 0
          have hP_c1 := hP.cell 1; have hP_f1 := hP.frozen 1
          have hP_c2 := hP.cell 2; have hP_f2 := hP.frozen 2
          simp only [List.getElem?_toArray, List.getElem?_cons_zero, List.getElem?_cons_succ] at hP_c0 hP_c1 hP_c2
          replace hW := hW.below hb15 (by first | omega | exact hW.lt | (simp; done) | (simp; omega))
          (try clear hW_c0); (try clear hW_f0)
          (try clear hW_c1); (try clear hW_f1)
          (try clear hW_c2); (try clear hW_f2)
          (try clear hW_c3); (try clear hW_f3)
          (try clear hW_c4); (try clear hW_f4)
          (try clear hW_c5); (try clear hW_f5)
          (try clear hW_lt)
          have hW_lt := hW.lt; (try simp only [World.size_alloc] at hW_lt)
          have hW_c0 := hW.cell 0; have hW_f0 := hW.frozen 0
          have hW_c1 := hW.cell 1; have hW_f1 := hW.frozen 1
          have hW_c2 := hW.cell 2; have hW_f2 := hW.frozen 2
          have hW_c3 := hW.cell 3; have hW_f3 := hW.frozen 3
          have hW_c4 := hW.cell 4; have hW_f4 := hW.frozen 4
          have hW_c5 := hW.cell 5; have hW_f5 := hW.frozen 5
          simp only [List.getElem?_toArray, List.getElem?_cons_zero, List.getElem?_cons_succ] at hW_c0 hW_c1 hW_c2 hW_c3 hW_c4 hW_c5
          replace hO4 := hO4.below hb15 (by first | omega | exact hO4.lt | (simp; done) | (simp; omega))
          (try clear hO4_c0); (try clear hO4_f0)
          (try clear hO4_c1); (try clear hO4_f1)
          (try clear hO4_c2); (try clear hO4_f2)
          (try clear hO4_lt)
          have hO4_lt := hO4.lt; (try simp only [World.size_alloc] at hO4_lt)
          have hO4_c0 := hO4.cell 0; have hO4_f0 := hO4.frozen 0
          have hO4_c1 := hO4.cell 1; have hO4_f1 := hO4.frozen 1
          have hO4_c2 := hO4.cell 2; have hO4_f2 := hO4.frozen 2
          simp only [List.getElem?_toArray, List.getElem?_cons_zero, List.getElem?_cons_succ] at hO4_c0 hO4_c1 hO4_c2
          replace hO7 := hO7.below hb15 (by first | omega | exact hO7.lt | (simp; done) | (simp; omega))
          (try clear hO7_c0); (try clear hO7_f0)
          (try clear hO7_c1); (try clear hO7_f1)
          (try clear hO7_c2); (try clear hO7_f2)
          (try clear hO7_lt)
          have hO7_lt := hO7.lt; (try simp only [World.size_alloc] at hO7_lt)
          have hO7_c0 := hO7.cell 0; have hO7_f0 := hO7.frozen 0
          have hO7_c1 := hO7.cell 1; have hO7_f1 := hO7.frozen 1
          have hO7_c2 := hO7.cell 2; have hO7_f2 := hO7.frozen 2
          simp only [List.getElem?_toArray, List.getElem?_cons_zero, List.getElem?_cons_succ] at hO7_c0 hO7_c1 hO7_c2
          replace hO8 := hO8.below hb15 (by first | omega | exact hO8.lt | (simp; done) | (simp; omega))
          (try clear hO8_c0); (try clear hO8_f0)
          (try clear hO8_c1); (try clear hO8_f1)
          (try clear hO8_c2); (try clear hO8_f2)
          (try clear hO8_lt)
          have hO8_lt := hO8.lt; (try simp only [World.size_alloc] at hO8_lt)
          have hO8_c0 := hO8.cell 0; have hO8_f0 := hO8.frozen 0
          have hO8_c1 := hO8.cell 1; have hO8_f1 := hO8.frozen 1
          have hO8_c2 := hO8.cell 2; have hO8_f2 := hO8.frozen 2
          simp only [List.getElem?_toArray, List.getElem?_cons_zero, List.getElem?_cons_succ] at hO8_c0 hO8_c1 hO8_c2
          replace hO14 := hO14.below hb15 (by first | omega | exact hO14.lt | (simp; done) | (simp; omega))
          (try clear hO14_c0); (try clear hO14_f0)
          (try clear hO14_c1); (try clear hO14_f1)
          (try clear hO14_c2); (try clear hO14_f2)
          (try clear hO14_lt)
          have hO14_lt := hO14.lt; (try simp only [World.size_alloc] at hO14_lt)
          have hO14_c0 := hO14.cell 0; have hO14_f0 := hO14.frozen 0
          have hO14_c1 := hO14.cell 1; have hO14_f1 := hO14.frozen 1
          have hO14_c2 := hO14.cell 2; have hO14_f2 := hO14.frozen 2
          simp only [List.getElem?_toArray, List.getElem?_cons_zero, List.getElem?_cons_succ] at hO14_c0 hO14_c1 hO14_c2
          replace hX := hX.below (hb15.mono hsw14)
          replace my3 := my3.below_ hb15
          replace my14 := my14.below_ hb15
          replace hky := hky.below_ hb15
          have hB15 : Below w.heap.size w w15 := hB14.trans (hb15.mono hsw14)
          have hsw15 := hB15.size
          clear hb15
          go_wp2_with fail
          refine (heldRg_MK _ _ c5 1 hky HA5.out hyl2 (by omega) (by omega)).mono ?_
          rintro x w16 ⟨rfl, hb16⟩
          have hB16 := hB15.trans (hb16.mono hsw15)
          go_wp2
          go_ret
          exact ⟨rfl, hB16⟩

set_option maxRecDepth 100000 in
theorem lifted (os : Os) (started : os.Started) (H : Type) (enc : TypeId × Value → H) :
    ReturnsInHanded {} Try.checked os 6 .any (Rows.fnExactRingPutSpec.pre6 enc Try.prog Try.f6 Rows.fnExactRingPutRow.domain false) (Rows.fnExactRingPutSpec.post enc Try.prog Try.f6 false true false false) := by
  refine returnsInHanded_of_change (C := Try.checked) own started (by kernel_rfl) Try.func6
    (ChangeSpec.witness6 (enc := enc) (C := Try.checked) false ⟨#[], #[.agg #[.int .i64 0, .int .i64 0, .slice none 0 0], .agg #[.int .i64 0, .int .i64 0, .int .i64 0, .int .i64 0, .bool false, .bool false]], []⟩ 8 (by kernel_rfl) (by kernel_rfl) (by kernel_rfl) (by kernel_rfl)) ?_
  intro W base args ds gs before hval0 hW hcnd _
  have hval : ∀ (j : Nat) t v, Try.f6.params[j]? = some t → args[j]? = some v → Value.okWide Try.prog W .any base t v := hval0
  have hW' := hW
  obtain ⟨p, q, hA0, hV, rfl, hfz, hnd⟩ := hW
  have hA : DataW.TrodAll enc Try.prog W 0 (fun _ => true) true Try.f6.params.toList args.toList ds p := hA0
  rw [Try.params6] at hA hval
  obtain ⟨v0, vs0, d0, ds0, p0, q0, hargs, rfl, rfl, h0, r0⟩ := trodAll_cons hA
  obtain ⟨v1, vs1, d1, ds1, p1, q1, rfl, rfl, rfl, h1, r1⟩ := trodAll_cons r0
  obtain ⟨rfl, rfl, rfl⟩ := trodAll_nil r1
  obtain rfl : args = #[v0, v1] := by cases args; simp_all
  obtain ⟨rfl, rfl⟩ := trodVars_none hV
  obtain ⟨ea, cr, A, n, c, xs, rfl, hnc, hcm, hws⟩ := open_ring (hval 0 40 v0 rfl rfl) h0
  obtain ⟨y, rfl⟩ := open_pk (hval 1 41 v1 rfl rfl) h1
  have lt0 : ∀ x ∈ p0, x.block < W.heap.size := by obtain ⟨m, hm⟩ := h0; exact DataW.trod_lt m _ _ _ hm
  have lt1 : ∀ x ∈ p1, x.block < W.heap.size := by obtain ⟨m, hm⟩ := h1; exact DataW.trod_lt m _ _ _ hm
  clear hA0 hval0
  refine (walk ea cr A n c xs y W hws hnc hcm ).mono fun e W' ⟨he, bel⟩ => ?_
  subst he
  exact ⟨_, rfl, _, _, _, [], _, [], hW', trodAll_mk1 (shut_bool Try.underlying4 _), (trodAll_cons_mk (Below.trod laidOut (by kernel_rfl) (of_decide_eq_true (by kernel_rfl)) h0 bel lt0) (trodAll_cons_mk (Below.trod laidOut (by kernel_rfl) (of_decide_eq_true (by kernel_rfl)) h1 bel lt1) trodAll_mk0)), rfl, bel.frame _, fun h => by cases h⟩

theorem over : Rows.fnExactRingPutRow.holds Try.pinned (OpenSpec.ofChange Rows.fnExactRingPutSpec) :=
  OpenClaim.holds_of_wide 6 Try.f6 rfl rfl rfl rfl rfl rfl rfl ⟨rfl, rfl, rfl, rfl, rfl⟩ rfl rfl rfl rfl rfl (by kernel_rfl) Try.func6 (by kernel_rfl)
    (of_decide_eq_true (by kernel_rfl)) (by unfold Func.isWrapper; first | (rw [if_pos (by decide +kernel)]; kernel_rfl) | (rw [if_neg (by decide +kernel)]; exact ⟨rfl, rfl⟩))
    (fun os started H enc _ => lifted os started H enc)

/-- THE STATEMENT -/
theorem proved : Rows.FnExactRingPutSaid := over
#print axioms proved
end Go.Proofs.Ytjhppghkhfacaaa.fnExactRingPut
