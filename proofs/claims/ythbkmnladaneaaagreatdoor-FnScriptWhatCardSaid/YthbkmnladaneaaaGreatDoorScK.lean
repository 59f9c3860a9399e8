/-
  Scripts: the last key of a ring's packets, in the reference; where reading goes on, in the program.
  Conditions: the packets are valid, as each theorem states.
-/
import Derived.Test.YthbkmnladaneaaaGreatDoorScP
namespace Go.Proofs.YthbkmnladaneaaaGreatDoor
open Go.RowKit
set_option linter.unusedVariables false
set_option linter.unusedSimpArgs false
set_option maxRecDepth 100000

theorem keyI_bd : ∀ xs : List Pk, -1 ≤ keyI xs ∧ keyI xs < xs.length
  | [] => by simp [keyI]
  | x :: xs => by
    have ih := keyI_bd xs
    unfold keyI
    split
    · simp only [List.length_cons]; omega
    · split <;> simp only [List.length_cons] <;> omega
theorem keyI_snoc : ∀ (xs : List Pk) (x : Pk), keyI (xs ++ [x]) = if x.ky = true then (xs.length : Int) else keyI xs
  | [], x => by unfold keyI; simp [keyI]
  | y :: xs, x => by
    rw [List.cons_append]
    conv => lhs; unfold keyI
    rw [keyI_snoc xs x]
    by_cases h : x.ky = true
    · rw [if_pos h, if_pos h, if_pos (by omega)]; simp
    · rw [if_neg h, if_neg h]; rfl
theorem keyI_app : ∀ (xs ys : List Pk), keyI ys < 0 → keyI (xs ++ ys) = keyI xs
  | [], ys, h => by have := keyI_bd ys; simp [keyI]; omega
  | x :: xs, ys, h => by
    rw [List.cons_append]
    unfold keyI
    rw [keyI_app xs ys h]
theorem keyI_drop {xs : List Pk} {k : Nat} (h : keyI (xs.drop k) < 0) : keyI xs < (k : Int) := by
  have e := keyI_app (xs.take k) (xs.drop k) h
  rw [List.take_append_drop] at e
  have := (keyI_bd (xs.take k)).2
  have := List.length_take_le k xs
  omega
theorem keyI_here {xs : List Pk} {k : Nat} {x : Pk} (hx : xs[k]? = some x) (hk : x.ky = true) (h : keyI (xs.drop (k + 1)) < 0) : keyI xs = (k : Int) := by
  have hl := (List.getElem?_eq_some_iff.1 hx).1
  have e := keyI_app (xs.take (k + 1)) (xs.drop (k + 1)) h
  rw [List.take_append_drop, List.take_add_one, hx, Option.toList_some, keyI_snoc, if_pos hk, List.length_take] at e
  rw [e]; omega
theorem keyI_prev {xs : List Pk} {k : Nat} {x : Pk} (hx : xs[k]? = some x) (hk : x.ky = false) (h : keyI (xs.drop (k + 1)) < 0) : keyI (xs.drop k) < 0 := by
  have hl := (List.getElem?_eq_some_iff.1 hx).1
  have hx' : xs[k] = x := (List.getElem?_eq_some_iff.1 hx).2
  rw [List.drop_eq_getElem_cons hl, hx']
  unfold keyI
  rw [if_neg (by omega), if_neg (by simp [hk])]
  omega
theorem keyI_take {xs : List Pk} {k : Nat} {x : Pk} (hx : xs[k]? = some x) : keyI (xs.take (k + 1)) = if x.ky = true then (k : Int) else keyI (xs.take k) := by
  have hl := (List.getElem?_eq_some_iff.1 hx).1
  rw [List.take_add_one, hx, Option.toList_some, keyI_snoc, List.length_take, Nat.min_eq_left (by omega)]

/-- Where reading goes on with packets from a number on. -/
def goN (co : Int) (xs : List Pk) (from_ : Int) : Int × Bool :=
  if 0 ≤ keyI xs ∧ from_ ≤ co - (xs.length : Int) + keyI xs then (co - (xs.length : Int) + keyI xs, false) else (co, true)
theorem goN_yes {co : Int} {xs : List Pk} {f : Int} (h : 0 ≤ keyI xs) (h' : f ≤ co - (xs.length : Int) + keyI xs) : goN co xs f = (co - (xs.length : Int) + keyI xs, false) := if_pos ⟨h, h'⟩
theorem goN_no {co : Int} {xs : List Pk} {f : Int} (h : ¬ (0 ≤ keyI xs ∧ f ≤ co - (xs.length : Int) + keyI xs)) : goN co xs f = (co, true) := if_neg h
theorem skipS_eq (s : Sc) (f : Int) : skipS s f = { s with nx := (goN s.co s.xs f).1, lo := min (s.lo + (goN s.co s.xs f).1 - s.nx) 999999, wt := (goN s.co s.xs f).2 } := by
  unfold skipS goN oldI
  split <;> rfl

set_option maxHeartbeats 4000000 in
theorem skey_any (A : Option Addr) (n c : Nat) (xs : List Pk) (w : World) (h : Pks w w.heap.size A n xs) (hn : n ≤ 1099511627776) (hps : psOk xs) :
    Calls Tryz.prog 51 #[.slice A n c] w fun e w' => e = .returned (.int .i64 (keyI xs)) ∧ Below w.heap.size w w' := by
  have HL := Lib.hid h.len
  have HV := Lib.hid (fun (w' : World) (hw : Below w.heap.size w w') => by
    have := sps_any A n c xs w' ((h.below hw).more hw.size) hn
    rw [psB_true.2 hps] at this
    exact this)
  clear hps
  go_enter Tryz.func51, Tryz.ntmps51
  go_wp2
  go_loopw [3, 4] (fun t i wr => ∃ k : Nat, k ≤ n ∧ i = .int .i64 k ∧ t = .int .i64 (keyI (xs.take k)) ∧ Below w.heap.size w wr) (fun _ i _ => n - (intOf i).toNat)
  case atStart => exact ⟨0, by omega, rfl, rfl, (by repeat (first | exact Below.refl _ _ | assumption | refine Below.setCell ?_ (by first | omega | (simp; done) | (simp; omega)) _ | refine Below.alloc ?_ (by first | omega | (simp; done) | (simp; omega)) _ | refine Below.drew ?_ | refine Below.drewN' ?_ _ | refine Below.trans ?_ (Below.mono (by assumption) (by first | omega | (simp; done) | (simp; omega)))))⟩
  case round =>
    obtain ⟨k, hk, rfl, rfl, hB⟩ := hrel
    have hs := hB.size
    by_cases hlt : k < n
    · have e0 : decide (k < n) = true := by simpa using hlt
      obtain ⟨b, off, rfl, hb, hcell⟩ := h.addr (by omega)
      obtain ⟨x, hx⟩ : ∃ x, xs[k]? = some x := ⟨_, List.getElem?_eq_getElem (by rw [HL.out]; exact hlt)⟩
      obtain ⟨-, -, -, -, c4, -⟩ := hcell k x hx
      have hkt := keyI_take hx
      clear hcell hx
      cases hky : x.ky with
      | true =>
        rw [if_pos hky] at hkt
        have HK := Lib.hid hkt
        clear hkt
        rw [hky] at c4
        go_wp2_with (go_at_call 65; refine (HV.out _ hB).mono ?_; rintro e w1 ⟨rfl, hb1⟩; replace hB := hB.trans (hb1.mono hs); replace c4 := (hB.cell (p := ⟨b, off + k * 6 + 4, none⟩) hb).trans c4; clear hb1)
        go_roundw
        case rel => exact ⟨k + 1, by omega, by go_num, by rw [HK.out], hB⟩
        case measure => simp [intOf]; omega
      | false =>
        rw [if_neg (by rw [hky]; decide)] at hkt
        have HK := Lib.hid hkt
        clear hkt
        rw [hky] at c4
        go_wp2_with (go_at_call 65; refine (HV.out _ hB).mono ?_; rintro e w1 ⟨rfl, hb1⟩; replace hB := hB.trans (hb1.mono hs); replace c4 := (hB.cell (p := ⟨b, off + k * 6 + 4, none⟩) hb).trans c4; clear hb1)
        go_roundw
        case rel => exact ⟨k + 1, by omega, by go_num, by rw [HK.out], hB⟩
        case measure => simp [intOf]; omega
    · have hkn : k = n := by omega
      subst hkn
      have HT := Lib.hid (show keyI (xs.take k) = keyI xs by rw [List.take_of_length_le (by rw [HL.out]; omega)])
      go_wp2
      go_ret
      exact ⟨ret_int HT.out, hB⟩
/-- The shape of 'lostPackets'. -/
def lostV (p : Int × Bool) : Value := .agg #[.int .i64 p.1, .bool p.2]
set_option maxHeartbeats 4000000 in
theorem goOn_any (ro co : Int) (A : Option Addr) (n c : Nat) (xs : List Pk) (f : Int) (w : World) (h : Pks w w.heap.size A n xs) (hn : n ≤ 1099511627776) (hco0 : 0 ≤ co) (hco1 : co ≤ 999999) (hnc : (n : Int) ≤ co) (hf0 : 0 ≤ f) (hf1 : f ≤ 999999) :
    Calls Tryz.prog 92 #[.agg #[.int .i64 ro, .int .i64 co, .slice A n c], .int .i64 f] w fun e w' => e = .returned (lostV (goN co xs f)) ∧ Below w.heap.size w w' := by
  have HL := Lib.hid h.len
  have hl := h.len
  have hmax := fun (w : World) (ts : Array TypeId) (t : TypeId) (x y : Int) => @run_max_plain Tryz.prog w ts t x y
  have hgo := fun (h1 : 0 ≤ keyI xs) (h2 : f ≤ co - (n : Int) + keyI xs) => goN_yes (co := co) (xs := xs) (f := f) h1 (by rw [hl]; exact h2)
  have hst := fun (h1 : ¬ (0 ≤ keyI xs ∧ f ≤ co - (n : Int) + keyI xs)) => goN_no (co := co) (xs := xs) (f := f) (by rw [hl]; exact h1)
  rw [hl] at hgo
  have HGO := Lib.hid hgo
  have HST := Lib.hid hst
  have hkd : keyI (xs.drop n) < 0 := by rw [List.drop_of_length_le (by omega)]; decide
  have HKD := Lib.hid hkd
  clear hgo hst hkd hl
  go_enter Tryz.func92, Tryz.ntmps92
  go_wp2
  have hol0 : 0 ≤ co - (n : Int) := by omega
  have hol1 : co - (n : Int) ≤ co := by omega
  have HCO := Lib.hid (show co - (n : Int) = co - (n : Int) from rfl)
  generalize hol : co - (n : Int) = ol at *
  replace HCO : Hid (co = ol + (n : Int)) := Lib.hid (by omega)
  clear hol
  go_loop [6] (fun i => ∃ (k : Nat) (m : Int), k ≤ n ∧ i = .int .i64 m ∧ Hid (m = ol + (k : Int) - 1) ∧ Hid (keyI (xs.drop k) < 0)) (fun i => (intOf i + 1 - ol).toNat)
  case atStart => exact ⟨n, _, Nat.le_refl _, rfl, Lib.hid (by have := HCO.out; omega), HKD⟩
  case round =>
    obtain ⟨k, m, hk, rfl, hm, hkey⟩ := hrel
    have hm' := hm.out
    have hco := HCO.out
    by_cases hge : f ≤ m ∧ ol ≤ m
    · obtain ⟨hge1, hge2⟩ := hge
      have e0 : decide (max f ol ≤ m) = true := by rw [decide_eq_true_eq]; omega
      obtain ⟨j, rfl⟩ : ∃ j, k = j + 1 := ⟨k - 1, by omega⟩
      obtain ⟨b, off, rfl, hb, hcell⟩ := h.addr (by omega)
      obtain ⟨x, hx⟩ : ∃ x, xs[j]? = some x := ⟨_, List.getElem?_eq_getElem (by rw [HL.out]; omega)⟩
      obtain ⟨-, -, -, -, c4, -⟩ := hcell j x hx
      have HX := Lib.hid hx
      clear hcell hx
      have hw1 : IntKind.i64.wrap (m - ol) = (j : Int) := by rw [IntKind.wrap_i64]; omega
      have hw2 : m - ol = (j : Int) := by omega
      have hm0 : 0 ≤ m := by omega
      have hm1 : m ≤ 999999 := by omega
      cases hky : x.ky with
      | true =>
        have hkk := keyI_here HX.out hky hkey.out
        have HE := Lib.hid (show goN co xs f = (m, false) by rw [HGO.out (by omega) (by omega), show ol + keyI xs = m by omega])
        clear hkk hm' hco
        rw [hky] at c4
        go_wp2
        exact bodyPost_ret (v := lostV (m, false)) (by simp [results, Tryz.results92, go_sem, lostV]) rfl ⟨by rw [HE.out], (by repeat (first | exact Below.refl _ _ | assumption | refine Below.setCell ?_ (by first | omega | (simp; done) | (simp; omega)) _ | refine Below.alloc ?_ (by first | omega | (simp; done) | (simp; omega)) _ | refine Below.drew ?_ | refine Below.drewN' ?_ _ | refine Below.trans ?_ (Below.mono (by assumption) (by first | omega | (simp; done) | (simp; omega)))))⟩
      | false =>
        have HP := Lib.hid (keyI_prev HX.out hky hkey.out)
        rw [hky] at c4
        clear hm' hco
        go_wp2
        go_round
        case rel => exact ⟨j, _, by omega, rfl, Lib.hid (by have := hm.out; omega), HP⟩
        case measure => have := hm.out; simp [intOf]; omega
    · have e0 : decide (max f ol ≤ m) = false := by rw [decide_eq_false_iff_not]; omega
      have hkk := keyI_drop hkey.out
      have HE := Lib.hid (HST.out (by omega))
      clear hkk hm' hco
      go_wp2
      exact bodyPost_ret (v := lostV (co, true)) (by simp [results, Tryz.results92, go_sem, lostV]) rfl ⟨by rw [HE.out], (by repeat (first | exact Below.refl _ _ | assumption | refine Below.setCell ?_ (by first | omega | (simp; done) | (simp; omega)) _ | refine Below.alloc ?_ (by first | omega | (simp; done) | (simp; omega)) _ | refine Below.drew ?_ | refine Below.drewN' ?_ _ | refine Below.trans ?_ (Below.mono (by assumption) (by first | omega | (simp; done) | (simp; omega)))))⟩
end Go.Proofs.YthbkmnladaneaaaGreatDoor
