/-
  The statement FnPacerTick: the law returns true for every input, and what was there before the call has not turned.
  No condition beyond the given statement.
-/
import Derived.Test.YtilokgloocbbnaaRows
import Derived.WalkKit
import Derived.ProofKit
import Derived.OpenShut
import Derived.ShutString
import Derived.ChangeOld
import Derived.Below
import Derived.Test.YtilokgloocbbnaaPac
import Derived.Test.YtilokgloocbbnaaPacB
import Derived.Test.YtilokgloocbbnaaPacD
import Derived.Test.YtilokgloocbbnaaPacE
import Derived.Test.YtilokgloocbbnaaPacF
import Derived.Test.YtilokgloocbbnaaPacG
import Derived.Test.YtilokgloocbbnaaPacI
import Derived.Test.YtilokgloocbbnaaPacJ
import Derived.Test.YtilokgloocbbnaaPacK
import Derived.Test.YtilokgloocbbnaaPacM
import Derived.Test.YtilokgloocbbnaaPacN
import Derived.Test.YtilokgloocbbnaaPacO
namespace Go.Proofs.Ytilokgloocbbnaa.fnPacerTick
open Go.ChangeShapes Go.WideShapes Go.ChangeAt Go.RowKit
open Go.ChangeMaps (open_string shut_string)
set_option linter.unusedVariables false

theorem own : ownKnob Try.prog.godebug = none := by kernel_rfl
theorem laidOut : laidOutB Try.prog = true := by kernel_rfl

/-- WHAT THE WALK IS TOLD OF A SLICE OF INTEGERS THAT CAME IN: it is nil; or it leads to a row of 'cap' cells, the numbers 'zs' (the first 'len' are its elements, the rest its spare room), each fitting its kind. -/
def IsRow (k : IntKind) (w : World) (a : Option Addr) (len cap : Nat) (zs : List Int) : Prop :=
  (a = none ∧ len = 0 ∧ cap = 0 ∧ zs = []) ∨
  ∃ x, a = some x ∧ len ≤ cap ∧ cap ≤ maxLen ∧ zs.length = cap ∧ (∀ i, i < zs.length → w.cell? (x.add i) = some (.int k (zs.getD i 0))) ∧ ∀ n ∈ zs, (Lit.int k n).wf = true


/-! ### STEP 1: THE WALK: the Go text returns true, AND WRITES NOTHING THAT WAS THERE: 'Below w.heap.size w w'' (Derived/Below.lean: '.refl', '.alloc', '.drew', '.setCell' at a new block, '.trans'). Open each 'IsRow' by 'rcases' AHEAD of 'go_enter'; part every test ahead of the walk. -/
set_option maxHeartbeats 4000000 in
set_option maxRecDepth 100000 in
theorem walk (a0 : Option Addr) (len0 cap0 : Nat) (z0 : List Int) (w : World) (w0 : IsRow .u8 w a0 len0 cap0 z0) :
    Calls Try.prog 7 #[.slice a0 len0 cap0] w fun e w' => e = .returned (.bool true) ∧ Below w.heap.size w w' := by
  obtain ⟨hb, hnc, hc⟩ := bytes_of_row w0
  have hcm := hc
  unfold maxLen at hcm
  by_cases hbig : 1048576 < len0
  · have e1 : decide (1048576 < len0) = true := by simpa using hbig
    go_enter Try.func7, Try.ntmps7
    go_wp2
    go_ret
    exact ⟨rfl, Below.refl _ _⟩
  · have e1 : decide (1048576 < len0) = false := by simpa using hbig
    go_enter Try.func7, Try.ntmps7
    go_wp2_with fail
    refine (draw_tick a0 len0 cap0 _ hb hnc hc).mono ?_
    rintro x w1 ⟨a, b, u, rfl, hpf, hb1⟩
    obtain ⟨ea, cr, A, n, c, xs, rfl, rfl, rfl, hn12, hnc', hc', hX, hA⟩ := hpf.shape
    clear hpf hA
    have hs1 := hb1.size
    have hP := Bk.new w1 25 #[.int .i64 ea, .int .i64 cr, .slice A n c]
    have hn4 : n ≤ 1099511627776 := by omega
    have hbx : Below w1.heap.size w1 (w1.alloc (.cells #[.int .i64 ea, .int .i64 cr, .slice A n c] 25)) := (by repeat (first | exact Below.refl _ _ | assumption | refine Below.setCell ?_ (by first | omega | (simp; done) | (simp; omega)) _ | refine Below.alloc ?_ (by first | omega | (simp; done) | (simp; omega)) _ | refine Below.drew ?_ | refine Below.drewN' ?_ _ | refine Below.trans ?_ (Below.mono (by assumption) (by first | omega | (simp; done) | (simp; omega)))))
    replace hX := hX.step hbx
    have hB1 := hb1.trans (hbx.mono hs1)
    by_cases hp : pOk ea cr xs
    · have HP := Lib.hid hp
      clear hp hb1 hbx
      go_wp2_with fail
      refine (itick_good ea cr A n c xs _ hX HP.out).mono ?_
      rintro x w2 ⟨v, s, rfl, ht⟩
      have hb2 := ht.2.2.2
      obtain ⟨A2, c2, rfl, -, -, hR⟩ := own_shape ht.1
      obtain ⟨A3, c3, rfl, -, -, hS⟩ := own_shape ht.2.1
      replace hX := hX.step hb2
      replace hP := hP.below hb2 (by first | omega | exact hP.lt | (simp; done) | (simp; omega))
      have hB2 := hB1.trans (hb2.mono hB1.size)
      have hs2 := hb2.size
      simp only [World.size_alloc] at hs2
      clear ht hb2
      have hO := Bk.new w2 25 #[.int .i64 ea, .int .i64 (nx ea cr xs), .slice A2 (rs ea cr xs).length c2]
      have hbx : Below w2.heap.size w2 (w2.alloc (.cells #[.int .i64 ea, .int .i64 (nx ea cr xs), .slice A2 (rs ea cr xs).length c2] 25)) := (by repeat (first | exact Below.refl _ _ | assumption | refine Below.setCell ?_ (by first | omega | (simp; done) | (simp; omega)) _ | refine Below.alloc ?_ (by first | omega | (simp; done) | (simp; omega)) _ | refine Below.drew ?_ | refine Below.drewN' ?_ _ | refine Below.trans ?_ (Below.mono (by assumption) (by first | omega | (simp; done) | (simp; omega)))))
      replace hX := hX.step hbx
      replace hR := Wts.step hR hbx
      replace hS := Wts.step hS hbx
      have hB2' := hB2.trans (hbx.mono hB2.size)
      (try clear hP_c0); (try clear hP_f0)
      (try clear hP_c1); (try clear hP_f1)
      (try clear hP_c2); (try clear hP_f2)
      (try clear hP_lt)
      have hP_lt := hP.lt; (try simp only [World.size_alloc] at hP_lt)
      have hP_c0 := hP.cell 0; have hP_f0 := hP.frozen 0
      have hP_c1 := hP.cell 1; have hP_f1 := hP.frozen 1
      have hP_c2 := hP.cell 2; have hP_f2 := hP.frozen 2
      simp only [List.getElem?_toArray, List.getElem?_cons_zero, List.getElem?_cons_succ] at hP_c0 hP_c1 hP_c2
      go_wp2_with fail
      refine (stick_good ea cr A n c xs _ hX hnc' hc' HP.out).mono ?_
      rintro x w3 ⟨v', s', rfl, ht⟩
      have hb3 := ht.2.2.2
      obtain ⟨A4, c4, rfl, -, -, hR'⟩ := own_shape ht.1
      obtain ⟨A5, c5, rfl, -, -, hS'⟩ := own_shape ht.2.1
      replace hX := hX.step hb3
      replace hR := hR.step hb3
      replace hS := hS.step hb3
      (try clear hP_c0); (try clear hP_f0)
      (try clear hP_c1); (try clear hP_f1)
      (try clear hP_c2); (try clear hP_f2)
      (try clear hP_lt)
      replace hP := (hP.below hbx hP.lt).below hb3 (by have := hP.lt; simp; omega)
      replace hO := hO.below hb3 (by first | omega | exact hO.lt | (simp; done) | (simp; omega))
      have hB3 := hB2'.trans (hb3.mono hB2'.size)
      have hs3 := hb3.size
      simp only [World.size_alloc] at hs3
      clear ht hb3 hbx hB2'
      have hbx : Below w3.heap.size w3 (w3.alloc (.cells #[.int .i64 ea, .int .i64 (nx ea cr xs), .slice A4 (rs ea cr xs).length c4] 25)) := (by repeat (first | exact Below.refl _ _ | assumption | refine Below.setCell ?_ (by first | omega | (simp; done) | (simp; omega)) _ | refine Below.alloc ?_ (by first | omega | (simp; done) | (simp; omega)) _ | refine Below.drew ?_ | refine Below.drewN' ?_ _ | refine Below.trans ?_ (Below.mono (by assumption) (by first | omega | (simp; done) | (simp; omega)))))
      replace hX := hX.step hbx
      replace hR := Wts.step hR hbx
      replace hS := Wts.step hS hbx
      replace hR' := Wts.step hR' hbx
      replace hS' := Wts.step hS' hbx
      have hQ := Bk.new w3 25 #[.int .i64 ea, .int .i64 (nx ea cr xs), .slice A4 (rs ea cr xs).length c4]
      replace hP := hP.below hbx hP.lt
      replace hO := hO.below hbx hO.lt
      have hB3' := hB3.trans (hbx.mono hB3.size)
      have hls : (sn ea cr xs).length ≤ 1099511627776 := by have := hX.len; unfold sn; simp; omega
      have hlr : (rs ea cr xs).length ≤ 1099511627776 := by have := hX.len; unfold rs; simp; omega
      (try clear hP_c0); (try clear hP_f0)
      (try clear hP_c1); (try clear hP_f1)
      (try clear hP_c2); (try clear hP_f2)
      (try clear hP_lt)
      have hP_lt := hP.lt; (try simp only [World.size_alloc] at hP_lt)
      have hP_c0 := hP.cell 0; have hP_f0 := hP.frozen 0
      have hP_c1 := hP.cell 1; have hP_f1 := hP.frozen 1
      have hP_c2 := hP.cell 2; have hP_f2 := hP.frozen 2
      simp only [List.getElem?_toArray, List.getElem?_cons_zero, List.getElem?_cons_succ] at hP_c0 hP_c1 hP_c2
      (try clear hO_c0); (try clear hO_f0)
      (try clear hO_c1); (try clear hO_f1)
      (try clear hO_c2); (try clear hO_f2)
      (try clear hO_lt)
      have hO_lt := hO.lt; (try simp only [World.size_alloc] at hO_lt)
      have hO_c0 := hO.cell 0; have hO_f0 := hO.frozen 0
      have hO_c1 := hO.cell 1; have hO_f1 := hO.frozen 1
      have hO_c2 := hO.cell 2; have hO_f2 := hO.frozen 2
      simp only [List.getElem?_toArray, List.getElem?_cons_zero, List.getElem?_cons_succ] at hO_c0 hO_c1 hO_c2
      (try clear hQ_c0); (try clear hQ_f0)
      (try clear hQ_c1); (try clear hQ_f1)
      (try clear hQ_c2); (try clear hQ_f2)
      (try clear hQ_lt)
      have hQ_lt := hQ.lt; (try simp only [World.size_alloc] at hQ_lt)
      have hQ_c0 := hQ.cell 0; have hQ_f0 := hQ.frozen 0
      have hQ_c1 := hQ.cell 1; have hQ_f1 := hQ.frozen 1
      have hQ_c2 := hQ.cell 2; have hQ_f2 := hQ.frozen 2
      simp only [List.getElem?_toArray, List.getElem?_cons_zero, List.getElem?_cons_succ] at hQ_c0 hQ_c1 hQ_c2
      go_wp2_with fail
      refine (sameW_below _ _ _ _ _ _ _ _ hS hS' (Nat.le_refl _) hls).mono ?_
      rintro x w4 ⟨rfl, hb4⟩
      replace hX := hX.step hb4
      replace hR := hR.step hb4
      replace hS := hS.step hb4
      replace hR' := hR'.step hb4
      replace hS' := hS'.step hb4
      replace hP := hP.below hb4 (by first | omega | exact hP.lt | (simp; done) | (simp; omega))
      (try clear hP_c0); (try clear hP_f0)
      (try clear hP_c1); (try clear hP_f1)
      (try clear hP_c2); (try clear hP_f2)
      (try clear hP_lt)
      have hP_lt := hP.lt; (try simp only [World.size_alloc] at hP_lt)
      have hP_c0 := hP.cell 0; have hP_f0 := hP.frozen 0
      have hP_c1 := hP.cell 1; have hP_f1 := hP.frozen 1
      have hP_c2 := hP.cell 2; have hP_f2 := hP.frozen 2
      simp only [List.getElem?_toArray, List.getElem?_cons_zero, List.getElem?_cons_succ] at hP_c0 hP_c1 hP_c2
      replace hO := hO.below hb4 (by first | omega | exact hO.lt | (simp; done) | (simp; omega))
      (try clear hO_c0); (try clear hO_f0)
      (try clear hO_c1); (try clear hO_f1)
      (try clear hO_c2); (try clear hO_f2)
      (try clear hO_lt)
      have hO_lt := hO.lt; (try simp only [World.size_alloc] at hO_lt)
      have hO_c0 := hO.cell 0; have hO_f0 := hO.frozen 0
      have hO_c1 := hO.cell 1; have hO_f1 := hO.frozen 1
      have hO_c2 := hO.cell 2; have hO_f2 := hO.frozen 2
      simp only [List.getElem?_toArray, List.getElem?_cons_zero, List.getElem?_cons_succ] at hO_c0 hO_c1 hO_c2
      replace hQ := hQ.below hb4 (by first | omega | exact hQ.lt | (simp; done) | (simp; omega))
      (try clear hQ_c0); (try clear hQ_f0)
      (try clear hQ_c1); (try clear hQ_f1)
      (try clear hQ_c2); (try clear hQ_f2)
      (try clear hQ_lt)
      have hQ_lt := hQ.lt; (try simp only [World.size_alloc] at hQ_lt)
      have hQ_c0 := hQ.cell 0; have hQ_f0 := hQ.frozen 0
      have hQ_c1 := hQ.cell 1; have hQ_f1 := hQ.frozen 1
      have hQ_c2 := hQ.cell 2; have hQ_f2 := hQ.frozen 2
      simp only [List.getElem?_toArray, List.getElem?_cons_zero, List.getElem?_cons_succ] at hQ_c0 hQ_c1 hQ_c2
      have hB4 := hB3'.trans (hb4.mono hB3'.size)
      clear hb4 hbx hB3'
      go_wp2_with fail
      refine (sameP_same _ _ _ _ _ _ _ _ _ _ hR hR' (Nat.le_refl _) hlr).mono ?_
      rintro x w5 ⟨rfl, hb5⟩
      replace hX := hX.step hb5
      replace hR := hR.step hb5
      replace hS := hS.step hb5
      replace hP := hP.below hb5 (by first | omega | exact hP.lt | (simp; done) | (simp; omega))
      (try clear hP_c0); (try clear hP_f0)
      (try clear hP_c1); (try clear hP_f1)
      (try clear hP_c2); (try clear hP_f2)
      (try clear hP_lt)
      have hP_lt := hP.lt; (try simp only [World.size_alloc] at hP_lt)
      have hP_c0 := hP.cell 0; have hP_f0 := hP.frozen 0
      have hP_c1 := hP.cell 1; have hP_f1 := hP.frozen 1
      have hP_c2 := hP.cell 2; have hP_f2 := hP.frozen 2
      simp only [List.getElem?_toArray, List.getElem?_cons_zero, List.getElem?_cons_succ] at hP_c0 hP_c1 hP_c2
      replace hO := hO.below hb5 (by first | omega | exact hO.lt | (simp; done) | (simp; omega))
      (try clear hO_c0); (try clear hO_f0)
      (try clear hO_c1); (try clear hO_f1)
      (try clear hO_c2); (try clear hO_f2)
      (try clear hO_lt)
      have hO_lt := hO.lt; (try simp only [World.size_alloc] at hO_lt)
      have hO_c0 := hO.cell 0; have hO_f0 := hO.frozen 0
      have hO_c1 := hO.cell 1; have hO_f1 := hO.frozen 1
      have hO_c2 := hO.cell 2; have hO_f2 := hO.frozen 2
      simp only [List.getElem?_toArray, List.getElem?_cons_zero, List.getElem?_cons_succ] at hO_c0 hO_c1 hO_c2
      have hB5 := hB4.trans (hb5.mono hB4.size)
      (try clear hQ_c0); (try clear hQ_f0)
      (try clear hQ_c1); (try clear hQ_f1)
      (try clear hQ_c2); (try clear hQ_f2)
      (try clear hQ_lt)
      clear hb5 hR' hS' hQ hB4 hB3 hB2 hB1
      obtain ⟨i0, hi0, hz0, hz1, hz2⟩ := info_parts wt_info
      have hls : (sn ea cr xs).length ≤ 12 ∧ (rs ea cr xs).length ≤ 12 := by have := hX.len; unfold sn rs; simp; omega
      obtain ⟨hls1, hlr1⟩ := hls
      have HLEN := Lib.hid (show (sn ea cr xs).length + (rs ea cr xs).length = n by
        have h1 := congrArg List.length (sn_rs ea cr xs)
        rw [List.length_append, hX.len] at h1
        exact h1)
      have HFL := Lib.hid (show (sn ea cr xs).flatMap Wt.c ++ (rs ea cr xs).flatMap Wt.c = xs.flatMap Wt.c by rw [← List.flatMap_append, sn_rs])
      have HV := Lib.hid (show ∀ w, Wts w w.heap.size A2 (rs ea cr xs).length (rs ea cr xs) → Calls Try.prog 17 #[.agg #[.int .i64 ea, .int .i64 (nx ea cr xs), .slice A2 (rs ea cr xs).length c2]] w fun e w' => e = .returned (.bool true) ∧ Below w.heap.size w w' from fun w h => by
        have := ipv_any ea (nx ea cr xs) A2 (rs ea cr xs).length c2 (rs ea cr xs) w h hlr
        rwa [pB_true.2 (pOk_next HP.out)] at this)
      have HE := Lib.hid (show ((w5.alloc (.cells #[] 27)).drew).ownsRow w5.heap.size 27 3 (.slice (some ⟨w5.heap.size, 0, none⟩) 0 0) 0 [] from own_empty w5 w5.heap.size 27 3 (Nat.le_refl _))
      have HS1 := Lib.hid (show Wts ((w5.alloc (.cells #[] 27)).drew) w5.heap.size A3 (sn ea cr xs).length (sn ea cr xs) from Sl.alloc hS (Nat.le_refl _) _)
      have HBA := Lib.hid (show Below w5.heap.size w5 ((w5.alloc (.cells #[] 27)).drew) from (by repeat (first | exact Below.refl _ _ | assumption | refine Below.setCell ?_ (by first | omega | (simp; done) | (simp; omega)) _ | refine Below.alloc ?_ (by first | omega | (simp; done) | (simp; omega)) _ | refine Below.drew ?_ | refine Below.drewN' ?_ _ | refine Below.trans ?_ (Below.mono (by assumption) (by first | omega | (simp; done) | (simp; omega))))))
      generalize nx ea cr xs = z at *
      generalize hln : (sn ea cr xs).length = ln at *
      clear hln
      generalize hrn : (rs ea cr xs).length = rn at *
      clear hrn
      go_wp2_with fail
      go_region_held3 (fun w' => w'.cell? ⟨w1.heap.size, 2, none⟩ = some (.slice A n c) ∧ w'.cell? ⟨w2.heap.size, 0, none⟩ = some (.int .i64 ea) ∧ w'.cell? ⟨w2.heap.size, 1, none⟩ = some (.int .i64 z) ∧ w'.cell? ⟨w2.heap.size, 2, none⟩ = some (.slice A2 rn c2)) ((first | go_keep | (repeat' (first | assumption | apply And.intro | rw [World.cell?_setCell_other _ _ _ _ (fun e => by injection e; omega)]))))
        (first
          | (refine step_app _ (by rfl) _ _ _ (by rfl) w5.heap.size 27 i0 _ 3 24 Try.underlying23 hi0 hz0 hz1 hz2 rfl (by omega) _ 0 [] (by rfl) HE.out w5.heap.size A3 ln c3 _ (by rfl) HS1.out (one_wts _) (by unfold maxLen; omega) (by omega) (by simp) ?_; intro v6 w6 hown6 hgrow6 hat6; simp only [Nat.zero_add, List.nil_append] at hown6; have hb6 := Below.grown_own HBA.out hgrow6 HE.out (Nat.le_refl _) (by simp); have hP6 := hP.below hb6 (by have := hP.lt; simpa using this); have hO6 := hO.below hb6 (by have := hO.lt; simpa using this); have p26 := hP6.cell 2; have o06 := hO6.cell 0; have o16 := hO6.cell 1; have o26 := hO6.cell 2; simp only [List.getElem?_toArray, List.getElem?_cons_zero, List.getElem?_cons_succ] at p26 o06 o16 o26; have hX6 := Wts.below hX hb6; have hR6 := Wts.below hR hb6; have hs6 := hb6.size; clear hgrow6 hat6)
          | (refine step_app _ (by rfl) _ _ _ (by rfl) w5.heap.size 27 i0 _ 3 24 Try.underlying23 hi0 hz0 hz1 hz2 rfl (by omega) v6 ln _ (by rfl) hown6 w5.heap.size A2 rn c2 _ (by rfl) hR6 (one_wts _) (by unfold maxLen; omega) (by omega) (by omega) ?_; intro v7 w7 hown7 hgrow7 hat7; rw [HLEN.out, HFL.out] at hown7; have hb7 := Below.grown_own hb6 hgrow7 hown6 (Nat.le_refl _) hs6; have hP7 := hP.below hb7 (by have := hP.lt; simpa using this); have hO7 := hO.below hb7 (by have := hO.lt; simpa using this); have p27 := hP7.cell 2; have o07 := hO7.cell 0; have o17 := hO7.cell 1; have o27 := hO7.cell 2; simp only [List.getElem?_toArray, List.getElem?_cons_zero, List.getElem?_cons_succ] at p27 o07 o17 o27; have hX7 := Wts.below hX hb7; have hR7 := Wts.below hR hb7; have hs7 := hb7.size; obtain ⟨A7, c7, rfl, -, -, hY7⟩ := own_shape hown7; clear hgrow7 hat7)
          | (go_at_call 18; refine (sameW_below A7 A n c7 c w7.heap.size xs w7 hY7 (hX7.more hs7) (Nat.le_refl _) hn4).mono ?_; rintro e w8 ⟨rfl, hb78⟩; have hb8 := hb7.trans (hb78.mono hs7); have hP8 := hP.below hb8 (by have := hP.lt; simpa using this); have hO8 := hO.below hb8 (by have := hO.lt; simpa using this); have p28 := hP8.cell 2; have o08 := hO8.cell 0; have o18 := hO8.cell 1; have o28 := hO8.cell 2; simp only [List.getElem?_toArray, List.getElem?_cons_zero, List.getElem?_cons_succ] at p28 o08 o18 o28; have hX8 := Wts.below hX hb8; have hR8 := Wts.below hR hb8)
          | (go_at_call 17; refine (HV.out w8 (hR8.more hb8.size)).mono ?_; rintro e w9 ⟨rfl, hb89⟩; have hb9 := hb8.trans (hb89.mono hb8.size); have hP9 := hP.below hb9 (by have := hP.lt; simpa using this); have hO9 := hO.below hb9 (by have := hO.lt; simpa using this); have p29 := hP9.cell 2; have o09 := hO9.cell 0; have o19 := hO9.cell 1; have o29 := hO9.cell 2; simp only [List.getElem?_toArray, List.getElem?_cons_zero, List.getElem?_cons_succ] at p29 o09 o19 o29; have hX9 := Wts.below hX hb9; have hR9 := Wts.below hR hb9))
      go_wp2
      go_ret
      exact ⟨rfl, hB5.trans (hb9.mono hB5.size)⟩
    · clear hb1 hbx
      go_wp2_with fail
      refine (itick_bad ea cr A n c xs _ hX hn4 hp).mono ?_
      rintro x w2 ⟨g2, rfl, hb2⟩
      replace hX := hX.step hb2
      replace hP := hP.below hb2 (by first | omega | exact hP.lt | (simp; done) | (simp; omega))
      (try clear hP_c0); (try clear hP_f0)
      (try clear hP_c1); (try clear hP_f1)
      (try clear hP_c2); (try clear hP_f2)
      (try clear hP_lt)
      have hP_lt := hP.lt; (try simp only [World.size_alloc] at hP_lt)
      have hP_c0 := hP.cell 0; have hP_f0 := hP.frozen 0
      have hP_c1 := hP.cell 1; have hP_f1 := hP.frozen 1
      have hP_c2 := hP.cell 2; have hP_f2 := hP.frozen 2
      simp only [List.getElem?_toArray, List.getElem?_cons_zero, List.getElem?_cons_succ] at hP_c0 hP_c1 hP_c2
      have hB2 := hB1.trans (hb2.mono hB1.size)
      have hs2 := hb2.size
      simp only [World.size_alloc] at hs2
      clear hb2
      have hO := Bk.new w2 25 #[.int .i64 0, .int .i64 0, .slice none 0 0]
      have hbx : Below w2.heap.size w2 (w2.alloc (.cells #[.int .i64 0, .int .i64 0, .slice none 0 0] 25)) := (by repeat (first | exact Below.refl _ _ | assumption | refine Below.setCell ?_ (by first | omega | (simp; done) | (simp; omega)) _ | refine Below.alloc ?_ (by first | omega | (simp; done) | (simp; omega)) _ | refine Below.drew ?_ | refine Below.drewN' ?_ _ | refine Below.trans ?_ (Below.mono (by assumption) (by first | omega | (simp; done) | (simp; omega)))))
      replace hX := hX.step hbx
      have hB2' := hB2.trans (hbx.mono hB2.size)
      go_wp2_with fail
      refine (stick_bad ea cr A n c xs _ hX hn4 hp).mono ?_
      rintro x w3 ⟨g3, rfl, hb3⟩
      replace hO := hO.below hb3 (by first | omega | exact hO.lt | (simp; done) | (simp; omega))
      have hB3 := hB2'.trans (hb3.mono hB2'.size)
      have hs3 := hb3.size
      simp only [World.size_alloc] at hs3
      clear hb3 hbx hB2'
      have hbx : Below w3.heap.size w3 (w3.alloc (.cells #[.int .i64 0, .int .i64 0, .slice none 0 0] 25)) := (by repeat (first | exact Below.refl _ _ | assumption | refine Below.setCell ?_ (by first | omega | (simp; done) | (simp; omega)) _ | refine Below.alloc ?_ (by first | omega | (simp; done) | (simp; omega)) _ | refine Below.drew ?_ | refine Below.drewN' ?_ _ | refine Below.trans ?_ (Below.mono (by assumption) (by first | omega | (simp; done) | (simp; omega)))))
      have hQ := Bk.new w3 25 #[.int .i64 0, .int .i64 0, .slice none 0 0]
      replace hO := hO.below hbx hO.lt
      have hB3' := hB3.trans (hbx.mono hB3.size)
      (try clear hP_c0); (try clear hP_f0)
      (try clear hP_c1); (try clear hP_f1)
      (try clear hP_c2); (try clear hP_f2)
      (try clear hP_lt)
      (try clear hO_c0); (try clear hO_f0)
      (try clear hO_c1); (try clear hO_f1)
      (try clear hO_c2); (try clear hO_f2)
      (try clear hO_lt)
      have hO_lt := hO.lt; (try simp only [World.size_alloc] at hO_lt)
      have hO_c0 := hO.cell 0; have hO_f0 := hO.frozen 0
      have hO_c1 := hO.cell 1; have hO_f1 := hO.frozen 1
      have hO_c2 := hO.cell 2; have hO_f2 := hO.frozen 2
      simp only [List.getElem?_toArray, List.getElem?_cons_zero, List.getElem?_cons_succ] at hO_c0 hO_c1 hO_c2
      (try clear hQ_c0); (try clear hQ_f0)
      (try clear hQ_c1); (try clear hQ_f1)
      (try clear hQ_c2); (try clear hQ_f2)
      (try clear hQ_lt)
      have hQ_lt := hQ.lt; (try simp only [World.size_alloc] at hQ_lt)
      have hQ_c0 := hQ.cell 0; have hQ_f0 := hQ.frozen 0
      have hQ_c1 := hQ.cell 1; have hQ_f1 := hQ.frozen 1
      have hQ_c2 := hQ.cell 2; have hQ_f2 := hQ.frozen 2
      simp only [List.getElem?_toArray, List.getElem?_cons_zero, List.getElem?_cons_succ] at hQ_c0 hQ_c1 hQ_c2
      go_wp2_with fail
      refine (sameW_below _ _ 0 _ _ _ [] _ Sl.none_ Sl.none_ (Nat.le_refl _) (by omega)).mono ?_
      rintro x w4 ⟨rfl, hb4⟩
      replace hO := hO.below hb4 (by first | omega | exact hO.lt | (simp; done) | (simp; omega))
      (try clear hO_c0); (try clear hO_f0)
      (try clear hO_c1); (try clear hO_f1)
      (try clear hO_c2); (try clear hO_f2)
      (try clear hO_lt)
      have hO_lt := hO.lt; (try simp only [World.size_alloc] at hO_lt)
      have hO_c0 := hO.cell 0; have hO_f0 := hO.frozen 0
      have hO_c1 := hO.cell 1; have hO_f1 := hO.frozen 1
      have hO_c2 := hO.cell 2; have hO_f2 := hO.frozen 2
      simp only [List.getElem?_toArray, List.getElem?_cons_zero, List.getElem?_cons_succ] at hO_c0 hO_c1 hO_c2
      replace hQ := hQ.below hb4 (by first | omega | exact hQ.lt | (simp; done) | (simp; omega))
      (try clear hQ_c0); (try clear hQ_f0)
      (try clear hQ_c1); (try clear hQ_f1)
      (try clear hQ_c2); (try clear hQ_f2)
      (try clear hQ_lt)
      have hQ_lt := hQ.lt; (try simp only [World.size_alloc] at hQ_lt)
      have hQ_c0 := hQ.cell 0; have hQ_f0 := hQ.frozen 0
      have hQ_c1 := hQ.cell 1; have hQ_f1 := hQ.frozen 1
      have hQ_c2 := hQ.cell 2; have hQ_f2 := hQ.frozen 2
      simp only [List.getElem?_toArray, List.getElem?_cons_zero, List.getElem?_cons_succ] at hQ_c0 hQ_c1 hQ_c2
      have hB4 := hB3'.trans (hb4.mono hB3'.size)
      clear hb4 hbx hB3'
      go_wp2_with fail
      refine (sameP_same _ _ _ _ 0 _ _ _ [] _ Sl.none_ Sl.none_ (Nat.le_refl _) (by omega)).mono ?_
      rintro x w5 ⟨rfl, hb5⟩
      replace hO := hO.below hb5 (by first | omega | exact hO.lt | (simp; done) | (simp; omega))
      (try clear hO_c0); (try clear hO_f0)
      (try clear hO_c1); (try clear hO_f1)
      (try clear hO_c2); (try clear hO_f2)
      (try clear hO_lt)
      have hO_lt := hO.lt; (try simp only [World.size_alloc] at hO_lt)
      have hO_c0 := hO.cell 0; have hO_f0 := hO.frozen 0
      have hO_c1 := hO.cell 1; have hO_f1 := hO.frozen 1
      have hO_c2 := hO.cell 2; have hO_f2 := hO.frozen 2
      simp only [List.getElem?_toArray, List.getElem?_cons_zero, List.getElem?_cons_succ] at hO_c0 hO_c1 hO_c2
      replace hQ := hQ.below hb5 (by first | omega | exact hQ.lt | (simp; done) | (simp; omega))
      (try clear hQ_c0); (try clear hQ_f0)
      (try clear hQ_c1); (try clear hQ_f1)
      (try clear hQ_c2); (try clear hQ_f2)
      (try clear hQ_lt)
      have hQ_lt := hQ.lt; (try simp only [World.size_alloc] at hQ_lt)
      have hQ_c0 := hQ.cell 0; have hQ_f0 := hQ.frozen 0
      have hQ_c1 := hQ.cell 1; have hQ_f1 := hQ.frozen 1
      have hQ_c2 := hQ.cell 2; have hQ_f2 := hQ.frozen 2
      simp only [List.getElem?_toArray, List.getElem?_cons_zero, List.getElem?_cons_succ] at hQ_c0 hQ_c1 hQ_c2
      have hB5 := hB4.trans (hb5.mono hB4.size)
      clear hb5 hB4
      go_wp2_with fail
      refine (sameW_below _ _ 0 _ _ _ [] _ Sl.none_ Sl.none_ (Nat.le_refl _) (by omega)).mono ?_
      rintro x w6 ⟨rfl, hb6⟩
      replace hO := hO.below hb6 (by first | omega | exact hO.lt | (simp; done) | (simp; omega))
      (try clear hO_c0); (try clear hO_f0)
      (try clear hO_c1); (try clear hO_f1)
      (try clear hO_c2); (try clear hO_f2)
      (try clear hO_lt)
      have hO_lt := hO.lt; (try simp only [World.size_alloc] at hO_lt)
      have hO_c0 := hO.cell 0; have hO_f0 := hO.frozen 0
      have hO_c1 := hO.cell 1; have hO_f1 := hO.frozen 1
      have hO_c2 := hO.cell 2; have hO_f2 := hO.frozen 2
      simp only [List.getElem?_toArray, List.getElem?_cons_zero, List.getElem?_cons_succ] at hO_c0 hO_c1 hO_c2
      replace hQ := hQ.below hb6 (by first | omega | exact hQ.lt | (simp; done) | (simp; omega))
      (try clear hQ_c0); (try clear hQ_f0)
      (try clear hQ_c1); (try clear hQ_f1)
      (try clear hQ_c2); (try clear hQ_f2)
      (try clear hQ_lt)
      have hQ_lt := hQ.lt; (try simp only [World.size_alloc] at hQ_lt)
      have hQ_c0 := hQ.cell 0; have hQ_f0 := hQ.frozen 0
      have hQ_c1 := hQ.cell 1; have hQ_f1 := hQ.frozen 1
      have hQ_c2 := hQ.cell 2; have hQ_f2 := hQ.frozen 2
      simp only [List.getElem?_toArray, List.getElem?_cons_zero, List.getElem?_cons_succ] at hQ_c0 hQ_c1 hQ_c2
      have hB6 := hB5.trans (hb6.mono hB5.size)
      clear hb6
      go_wp2_with fail
      refine (sameP_same _ _ _ _ 0 _ _ _ [] _ Sl.none_ Sl.none_ (Nat.le_refl _) (by omega)).mono ?_
      rintro x w7 ⟨rfl, hb7⟩
      have hB7 := hB6.trans (hb7.mono hB6.size)
      go_wp2
      go_ret
      exact ⟨rfl, hB7⟩

/-! ### THE ROW's STEP: WRITTEN OUT: LEAVE IT -/
set_option maxRecDepth 100000 in
theorem lifted (os : Os) (started : os.Started) (H : Type) (enc : TypeId × Value → H) :
    ReturnsInHanded {} Try.checked os 7 .any (Rows.fnPacerTickSpec.pre6 enc Try.prog Try.f7 Rows.fnPacerTickRow.domain false) (Rows.fnPacerTickSpec.post enc Try.prog Try.f7 false true false false) := by
  refine returnsInHanded_of_change (C := Try.checked) own started (by kernel_rfl) Try.func7
    (ChangeSpec.witness6 (enc := enc) (C := Try.checked) false ⟨#[], #[.slice none 0 0], []⟩ 8 (by kernel_rfl) (by kernel_rfl) (by kernel_rfl) (by kernel_rfl)) ?_
  intro W base args ds gs before hval0 hW hcnd _
  have hval : ∀ (j : Nat) t v, Try.f7.params[j]? = some t → args[j]? = some v → Value.okWide Try.prog W .any base t v := hval0
  have hW' := hW
  obtain ⟨p, q, hA0, hV, rfl, hfz, hnd⟩ := hW
  have hA : DataW.TrodAll enc Try.prog W 0 (fun _ => true) true Try.f7.params.toList args.toList ds p := hA0
  rw [Try.params7] at hA hval
  obtain ⟨v0, vs0, d0, ds0, p0, q0, hargs, rfl, rfl, h0, r0⟩ := trodAll_cons hA
  obtain ⟨rfl, rfl, rfl⟩ := trodAll_nil r0
  obtain rfl : args = #[v0] := by cases args; simp_all
  obtain ⟨rfl, rfl⟩ := trodVars_none hV
  obtain ⟨a0, len0, cap0, rfl⟩ := okWide_slice Try.underlying22 (hval 0 22 v0 rfl rfl)
  have k0 := h0
  have lt0 : ∀ x ∈ p0, x.block < W.heap.size := by obtain ⟨m, hm⟩ := k0; exact DataW.trod_lt m _ _ _ hm
  obtain ⟨z0, w0⟩ : ∃ zs, IsRow .u8 W a0 len0 cap0 zs := by
    obtain ⟨fuel, hf⟩ := h0
    rcases open_ints Try.underlying22 Try.underlying5 (by kernel_rfl) hf with ⟨hcs, _⟩ | ⟨x, l, c, zs, hcs, _, hl, hm, hz, _, hcell, hwz⟩
    · simp [Value.cells] at hcs
      obtain ⟨rfl, rfl, rfl⟩ := hcs
      exact ⟨[], .inl ⟨rfl, rfl, rfl, rfl⟩⟩
    · simp [Value.cells] at hcs
      obtain ⟨rfl, rfl, rfl⟩ := hcs
      exact ⟨zs, .inr ⟨_, rfl, hl, hm, by simpa using hz, hcell, hwz⟩⟩
  clear hA0 hval0
  refine (walk a0 len0 cap0 z0 W w0).mono fun e W' ⟨he, bel⟩ => ?_
  subst he
  exact ⟨_, rfl, _, _, _, [], _, [], hW', trodAll_mk1 (shut_bool Try.underlying4 _), (trodAll_cons_mk (Below.trod laidOut (by kernel_rfl) (of_decide_eq_true (by kernel_rfl)) k0 bel lt0) trodAll_mk0), rfl, bel.frame _, fun h => by cases h⟩

theorem over : Rows.fnPacerTickRow.holds Try.pinned (OpenSpec.ofChange Rows.fnPacerTickSpec) :=
  OpenClaim.holds_of_wide 7 Try.f7 rfl rfl rfl rfl rfl rfl rfl ⟨rfl, rfl, rfl, rfl, rfl⟩ rfl rfl rfl rfl rfl (by kernel_rfl) Try.func7 (by kernel_rfl)
    (of_decide_eq_true (by kernel_rfl)) (by unfold Func.isWrapper; first | (rw [if_pos (by decide +kernel)]; kernel_rfl) | (rw [if_neg (by decide +kernel)]; exact ⟨rfl, rfl⟩))
    (fun os started H enc _ => lifted os started H enc)

/--  THE STATEMENT  -/
theorem proved : Rows.FnPacerTickSaid := over
#print axioms proved
end Go.Proofs.Ytilokgloocbbnaa.fnPacerTick
