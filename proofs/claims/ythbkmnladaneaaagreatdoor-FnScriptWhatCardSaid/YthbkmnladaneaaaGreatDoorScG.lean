/-
  Scripts: putting a packet, in the reference.
  Conditions: the state is valid (scOk), its packets lie at the world; the words' memory.
-/
import Derived.Test.YthbkmnladaneaaaGreatDoorScQ
import Derived.Test.YthbkmnladaneaaaGreatDoorScX
namespace Go.Proofs.YthbkmnladaneaaaGreatDoor
open Go.RowKit
set_option linter.unusedVariables false
set_option linter.unusedSimpArgs false
set_option maxRecDepth 100000

/-- The state of a script, as the reference holds it. -/
def stV (s : Sc) (A : Option Addr) (c : Nat) : Value := .agg #[.int .i64 4, .int .i64 s.co, .slice A s.xs.length c, .int .i64 s.nx, .int .i64 s.lo, .bool s.wt]
/-- A row that is old (below N0) or new (from N1 on). -/
def OldNew (N0 N1 n : Nat) (A : Option Addr) : Prop := 0 < n → ∀ k o, A = some ⟨k, o, none⟩ → k < N0 ∨ N1 ≤ k
theorem pks_old {w : World} {N0 N1 n : Nat} {A : Option Addr} {xs : List Pk} (h : Pks w N0 A n xs) : OldNew N0 N1 n A := by
  intro hn k o e
  obtain ⟨b, off, e2, hb, -⟩ := h.addr hn
  rw [e2] at e
  injection e with e
  injection e with e
  exact Or.inl (by omega)
theorem Fr.old {N0 N1 n : Nat} {A : Option Addr} (h : Fr N1 A) : OldNew N0 N1 n A := fun _ k o e => Or.inr (h k o _ e)
theorem OldNew.le {N0 N1 N2 n : Nat} {A : Option Addr} (h : OldNew N0 N1 n A) (h2 : N2 ≤ N1) : OldNew N0 N2 n A := fun hn k o e => (h hn k o e).elim Or.inl fun h3 => Or.inr (by omega)
def StRet (N0 : Nat) (r : Sc × List UInt8) (w : World) (e : Ending) (w' : World) : Prop :=
  ∃ A c, e = .returned (.tuple #[stV r.1 A c, sV (r.2 ++ [10])]) ∧ r.1.xs.length ≤ c ∧ c ≤ maxLen ∧ Pks w' w'.heap.size A r.1.xs.length r.1.xs ∧ Below w.heap.size w w' ∧ OldNew N0 w.heap.size r.1.xs.length A
theorem snumL (a : List UInt8) (w : World) (ha : a.length ≤ 500) :
    Calls Tryz.prog 47 #[.string ⟨a.toArray⟩] w fun e w' => e = .returned (.int .i64 (numI a)) ∧ w = w' :=
  snum_any ⟨a.toArray⟩ w (by show a.toArray.size ≤ 500; simpa using ha)
theorem le1 (w : World) : w.heap.size ≤ w.heap.size + 1 := Nat.le_succ _
/-- A put's words. -/
def putW (s : Sc) (ky : Bool) (a b : List UInt8) : Sc × List UInt8 := if numB a = true ∧ numB b = true then putS s ky (valL a) (valL b) else (s, wNo)
theorem putW_yes {s : Sc} {ky : Bool} {a b : List UInt8} (hok : scOk s) (h : RpIn 4 s.co s.xs ⟨numI a, numI b, 0, 100, ky, false⟩) : putW s ky a b = ({ s with co := s.co + 1, xs := putL 4 s.xs ⟨numI a, numI b, 0, 100, ky, false⟩ }, wOk) := by
  have h1 : pkOk ⟨numI a, numI b, 0, 100, ky, false⟩ := (h.2.1.2 s.xs.length _ (by simp) (by simp)).1
  unfold pkOk at h1
  have ha : numB a = true := by
    cases hh : numB a with
    | true => rfl
    | false => have := numI_no hh; simp only at h1; omega
  have hb : numB b = true := by
    cases hh : numB b with
    | true => rfl
    | false => have := numI_no hh; simp only at h1; omega
  unfold putW
  rw [if_pos ⟨ha, hb⟩]
  rw [numI_yes ha, numI_yes hb] at h ⊢
  exact putS_yes hok h
theorem putW_no {s : Sc} {ky : Bool} {a b : List UInt8} (hok : scOk s) (h : ¬ RpIn 4 s.co s.xs ⟨numI a, numI b, 0, 100, ky, false⟩) : putW s ky a b = (s, wNo) := by
  unfold putW
  split
  · rename_i hh
    rw [numI_yes hh.1, numI_yes hh.2] at h
    exact putS_no hok h
  · rfl

set_option maxHeartbeats 2000000 in
theorem sput_any (s : Sc) (ky : Bool) (a b : List UInt8) (A : Option Addr) (c : Nat) (Aw : Option Addr) (cw : Nat) (w : World) (N0 : Nat) (h0 : Pks w N0 A s.xs.length s.xs) (hN0 : N0 ≤ w.heap.size) (hc : s.xs.length ≤ c) (hcm : c ≤ maxLen) (hok : scOk s)
    (hw : Sl w w.heap.size 1 Aw 3 [sV (if ky = true then wKey else wPut), sV a, sV b]) (ha : a.length ≤ 500) (hb : b.length ≤ 500) :
    Calls Tryz.prog 36 #[stV s A c, .slice Aw 3 cw] w (StRet N0 (putW s ky a b) w) := by
  have h := h0.more hN0
  have HOLD := Lib.hid (pks_old (N1 := w.heap.size) h0)
  clear h0
  have hl := scOk_len hok
  obtain ⟨bw, ow, rfl, hbw, hcw⟩ := hw.2 (by omega)
  have cw0 := hcw 0 _ rfl
  have cw1 := hcw 1 _ rfl
  have cw2 := hcw 2 _ rfl
  simp only [Nat.add_zero] at cw0
  unfold sV at cw0 cw1 cw2
  have HNA := Lib.hid (fun w => snumL a w ha)
  have HNB := Lib.hid (fun w => snumL b w hb)
  have hna := numI_bd a
  have hnb := numI_bd b
  have HP := Lib.hid (fun (w' : World) (hw : Below w.heap.size w w') => srp_any 4 s.co A s.xs.length c s.xs ⟨numI a, numI b, 0, 100, ky, false⟩ w' ((h.below hw).more hw.size) hc hcm hok.1)
  have HY := Lib.hid (putW_yes (s := s) (ky := ky) (a := a) (b := b) hok)
  have HN := Lib.hid (putW_no (s := s) (ky := ky) (a := a) (b := b) hok)
  have HPK := Lib.hid h
  clear hcw hw h hok
  unfold stV
  generalize putW s ky a b = r at *
  generalize hco : s.co = co at *
  generalize hxs : s.xs.length = n at *
  have HXS := Lib.hid hxs
  have HCO := Lib.hid hco
  clear hxs hco
  generalize numI a = na at *
  generalize numI b = nb at *
  generalize hnx : s.nx = nx at *
  generalize hlo : s.lo = lo at *
  generalize hwt : s.wt = wt at *
  have HNX := Lib.hid hnx
  have HLO := Lib.hid hlo
  have HWT := Lib.hid hwt
  clear hnx hlo hwt
  have hS := (Bk.new w 51 #[.int .i64 4, .int .i64 co, .slice A n c, .int .i64 nx, .int .i64 lo, .bool wt]).alloc (.cells #[.int .i64 0, .int .i64 0, .slice none 0 0, .int .i64 0, .int .i64 0, .bool false] 51)
  have hO := bk_new1 w (.cells #[.int .i64 4, .int .i64 co, .slice A n c, .int .i64 nx, .int .i64 lo, .bool wt] 51) 51 #[.int .i64 0, .int .i64 0, .slice none 0 0, .int .i64 0, .int .i64 0, .bool false]
  have hBa : Below w.heap.size w ((w.alloc (.cells #[.int .i64 4, .int .i64 co, .slice A n c, .int .i64 nx, .int .i64 lo, .bool wt] 51)).alloc (.cells #[.int .i64 0, .int .i64 0, .slice none 0 0, .int .i64 0, .int .i64 0, .bool false] 51)) := (by repeat (first | exact Below.refl _ _ | assumption | refine Below.setCell ?_ (by first | omega | (simp; done) | (simp; omega)) _ | refine Below.alloc ?_ (by first | omega | (simp; done) | (simp; omega)) _ | refine Below.drew ?_ | refine Below.drewN' ?_ _ | refine Below.trans ?_ (Below.mono (by assumption) (by first | omega | (simp; done) | (simp; omega)))))
  have h1 := (hBa.cell (p := ⟨bw, ow, none⟩) hbw).trans cw0
  have h2 := (hBa.cell (p := ⟨bw, ow + 1, none⟩) hbw).trans cw1
  have h3 := (hBa.cell (p := ⟨bw, ow + 2, none⟩) hbw).trans cw2
  have n1 := World.new_ne _ _ h1
  have HBa := Lib.hid hBa
  clear hBa
  by_cases hin : RpIn 4 co s.xs ⟨na, nb, 0, 100, ky, false⟩
  · have hr := HY.out hin
    subst hr
    have hpl : (putL 4 s.xs ⟨na, nb, 0, 100, ky, false⟩).length ≤ 4 := by
      have := putL_len (p := ⟨na, nb, 0, 100, ky, false⟩) hin.1
      omega
    have HPY := Lib.hid (fun (w' : World) (hw : Below w.heap.size w w') => (HP.out w' hw).mono fun e w2 hh => hh.1 hin)
    unfold RgGood RgM at HPY
    have HF := Lib.hid (fun (w' : World) (A' : Option Addr) (c' : Nat) (h1 : (putL 4 s.xs ⟨na, nb, 0, 100, ky, false⟩).length ≤ c') (h2 : c' ≤ maxLen) (h3 : Pks w' w'.heap.size A' (putL 4 s.xs ⟨na, nb, 0, 100, ky, false⟩).length (putL 4 s.xs ⟨na, nb, 0, 100, ky, false⟩)) (h4 : Below w.heap.size w w') (h5 : Fr w.heap.size A') =>
      (show StRet N0 (({ co := co + 1, xs := putL 4 s.xs ⟨na, nb, 0, 100, ky, false⟩, nx := nx, lo := lo, wt := wt } : Sc), wOk) w (.returned (.tuple #[.agg #[.int .i64 4, .int .i64 (co + 1), .slice A' (putL 4 s.xs ⟨na, nb, 0, 100, ky, false⟩).length c', .int .i64 nx, .int .i64 lo, .bool wt], .string ⟨#[111, 107, 10]⟩])) w' from ⟨A', c', rfl, h1, h2, h3, h4, h5.old⟩))
    generalize StRet N0 (({ co := co + 1, xs := putL 4 s.xs ⟨na, nb, 0, 100, ky, false⟩, nx := nx, lo := lo, wt := wt } : Sc), wOk) w = R at *
    generalize putL 4 s.xs ⟨na, nb, 0, 100, ky, false⟩ = ys at *
    clear HP HY HN hin
    generalize hm : ys.length = m at *
    cases ky with
    | true =>
      simp only [if_true, wKey] at h1 cw0
      go_enter Tryz.func36, Tryz.ntmps36
      go_wp2_with fail
      go_region_held3 (fun w' => w'.cell? ⟨bw, ow, none⟩ = some (.string ⟨#[107, 101, 121]⟩) ∧ w'.cell? ⟨bw, ow + 1, none⟩ = some (.string ⟨a.toArray⟩) ∧ w'.cell? ⟨bw, ow + 2, none⟩ = some (.string ⟨b.toArray⟩)) ((first | go_keep | (repeat' (first | with_reducible assumption | apply And.intro | rw [World.cell?_setCell_other _ _ _ _ (fun e => by injection e; omega)]))))
        (first | (go_at_call 47; first | (with_reducible refine (HNA.out _).mono ?_; rintro e w' ⟨rfl, rfl⟩) | (with_reducible refine (HNB.out _).mono ?_; rintro e w' ⟨rfl, rfl⟩)))
      all_goals
        have hS1 := (hS.alloc (.cells #[.int .i64 na, .int .i64 nb, .int .i64 0, .int .i64 100, .bool true, .bool false] 81)).drew
        have hO1 := (hO.alloc (.cells #[.int .i64 na, .int .i64 nb, .int .i64 0, .int .i64 100, .bool true, .bool false] 81)).drew
        have hP1 := (bk_new1 (w.alloc (.cells #[.int .i64 4, .int .i64 co, .slice A n c, .int .i64 nx, .int .i64 lo, .bool wt] 51)) (.cells #[.int .i64 0, .int .i64 0, .slice none 0 0, .int .i64 0, .int .i64 0, .bool false] 51) 81 #[.int .i64 na, .int .i64 nb, .int .i64 0, .int .i64 100, .bool true, .bool false]).drew
        rw [size1] at hP1
        have hB1 : Below w.heap.size w (((w.alloc (.cells #[.int .i64 4, .int .i64 co, .slice A n c, .int .i64 nx, .int .i64 lo, .bool wt] 51)).alloc (.cells #[.int .i64 0, .int .i64 0, .slice none 0 0, .int .i64 0, .int .i64 0, .bool false] 51)).alloc (.cells #[.int .i64 na, .int .i64 nb, .int .i64 0, .int .i64 100, .bool true, .bool false] 81)).drew := (HBa.out.alloc HBa.out.size _).drew
        generalize (((w.alloc (.cells #[.int .i64 4, .int .i64 co, .slice A n c, .int .i64 nx, .int .i64 lo, .bool wt] 51)).alloc (.cells #[.int .i64 0, .int .i64 0, .slice none 0 0, .int .i64 0, .int .i64 0, .bool false] 51)).alloc (.cells #[.int .i64 na, .int .i64 nb, .int .i64 0, .int .i64 100, .bool true, .bool false] 81)).drew = W1 at *
        clear h1 h2 h3 n1 cw0 cw1 cw2 hS hO
        (try clear hS1_c0); (try clear hS1_f0)
        (try clear hS1_c1); (try clear hS1_f1)
        (try clear hS1_c2); (try clear hS1_f2)
        (try clear hS1_c3); (try clear hS1_f3)
        (try clear hS1_c4); (try clear hS1_f4)
        (try clear hS1_c5); (try clear hS1_f5)
        (try clear hS1_lt)
        have hS1_lt := hS1.lt; (try simp only [World.size_alloc] at hS1_lt)
        have hS1_c0 := hS1.cell 0; have hS1_f0 := hS1.frozen 0
        have hS1_c1 := hS1.cell 1; have hS1_f1 := hS1.frozen 1
        have hS1_c2 := hS1.cell 2; have hS1_f2 := hS1.frozen 2
        have hS1_c3 := hS1.cell 3; have hS1_f3 := hS1.frozen 3
        have hS1_c4 := hS1.cell 4; have hS1_f4 := hS1.frozen 4
        have hS1_c5 := hS1.cell 5; have hS1_f5 := hS1.frozen 5
        simp only [List.getElem?_toArray, List.getElem?_cons_zero, List.getElem?_cons_succ] at hS1_c0 hS1_c1 hS1_c2 hS1_c3 hS1_c4 hS1_c5
        (try clear hO1_c0); (try clear hO1_f0)
        (try clear hO1_c1); (try clear hO1_f1)
        (try clear hO1_c2); (try clear hO1_f2)
        (try clear hO1_c3); (try clear hO1_f3)
        (try clear hO1_c4); (try clear hO1_f4)
        (try clear hO1_c5); (try clear hO1_f5)
        (try clear hO1_lt)
        have hO1_lt := hO1.lt; (try simp only [World.size_alloc] at hO1_lt)
        have hO1_c0 := hO1.cell 0; have hO1_f0 := hO1.frozen 0
        have hO1_c1 := hO1.cell 1; have hO1_f1 := hO1.frozen 1
        have hO1_c2 := hO1.cell 2; have hO1_f2 := hO1.frozen 2
        have hO1_c3 := hO1.cell 3; have hO1_f3 := hO1.frozen 3
        have hO1_c4 := hO1.cell 4; have hO1_f4 := hO1.frozen 4
        have hO1_c5 := hO1.cell 5; have hO1_f5 := hO1.frozen 5
        simp only [List.getElem?_toArray, List.getElem?_cons_zero, List.getElem?_cons_succ] at hO1_c0 hO1_c1 hO1_c2 hO1_c3 hO1_c4 hO1_c5
        (try clear hP1_c0); (try clear hP1_f0)
        (try clear hP1_c1); (try clear hP1_f1)
        (try clear hP1_c2); (try clear hP1_f2)
        (try clear hP1_c3); (try clear hP1_f3)
        (try clear hP1_c4); (try clear hP1_f4)
        (try clear hP1_c5); (try clear hP1_f5)
        (try clear hP1_lt)
        have hP1_lt := hP1.lt; (try simp only [World.size_alloc] at hP1_lt)
        have hP1_c0 := hP1.cell 0; have hP1_f0 := hP1.frozen 0
        have hP1_c1 := hP1.cell 1; have hP1_f1 := hP1.frozen 1
        have hP1_c2 := hP1.cell 2; have hP1_f2 := hP1.frozen 2
        have hP1_c3 := hP1.cell 3; have hP1_f3 := hP1.frozen 3
        have hP1_c4 := hP1.cell 4; have hP1_f4 := hP1.frozen 4
        have hP1_c5 := hP1.cell 5; have hP1_f5 := hP1.frozen 5
        simp only [List.getElem?_toArray, List.getElem?_cons_zero, List.getElem?_cons_succ] at hP1_c0 hP1_c1 hP1_c2 hP1_c3 hP1_c4 hP1_c5
        have hP1_lt0 := hP1.lt
        go_wp2_with
          (go_at_call 48
           refine (HPY.out _ hB1).mono ?_
           rintro e w5 ⟨v, rfl, ⟨A5, c5, rfl, hc5, hm5, hp5, hf5⟩, hb5⟩
           replace hB1 := hB1.trans (hb5.mono hB1.size)
           replace hS1 := hS1.below hb5 (by first | omega | exact hS1.lt | (simp; done) | (simp; omega))
           (try clear hS1_c0); (try clear hS1_f0)
           (try clear hS1_c1); (try clear hS1_f1)
           (try clear hS1_c2); (try clear hS1_f2)
           (try clear hS1_c3); (try clear hS1_f3)
           (try clear hS1_c4); (try clear hS1_f4)
           (try clear hS1_c5); (try clear hS1_f5)
           (try clear hS1_lt)
           have hS1_lt := hS1.lt; (try simp only [World.size_alloc] at hS1_lt)
           have hS1_c0 := hS1.cell 0; have hS1_f0 := hS1.frozen 0
           have hS1_c1 := hS1.cell 1; have hS1_f1 := hS1.frozen 1
           have hS1_c2 := hS1.cell 2; have hS1_f2 := hS1.frozen 2
           have hS1_c3 := hS1.cell 3; have hS1_f3 := hS1.frozen 3
           have hS1_c4 := hS1.cell 4; have hS1_f4 := hS1.frozen 4
           have hS1_c5 := hS1.cell 5; have hS1_f5 := hS1.frozen 5
           simp only [List.getElem?_toArray, List.getElem?_cons_zero, List.getElem?_cons_succ] at hS1_c0 hS1_c1 hS1_c2 hS1_c3 hS1_c4 hS1_c5
           replace hO1 := hO1.below hb5 (by first | omega | exact hO1.lt | (simp; done) | (simp; omega))
           (try clear hO1_c0); (try clear hO1_f0)
           (try clear hO1_c1); (try clear hO1_f1)
           (try clear hO1_c2); (try clear hO1_f2)
           (try clear hO1_c3); (try clear hO1_f3)
           (try clear hO1_c4); (try clear hO1_f4)
           (try clear hO1_c5); (try clear hO1_f5)
           (try clear hO1_lt)
           have hO1_lt := hO1.lt; (try simp only [World.size_alloc] at hO1_lt)
           have hO1_c0 := hO1.cell 0; have hO1_f0 := hO1.frozen 0
           have hO1_c1 := hO1.cell 1; have hO1_f1 := hO1.frozen 1
           have hO1_c2 := hO1.cell 2; have hO1_f2 := hO1.frozen 2
           have hO1_c3 := hO1.cell 3; have hO1_f3 := hO1.frozen 3
           have hO1_c4 := hO1.cell 4; have hO1_f4 := hO1.frozen 4
           have hO1_c5 := hO1.cell 5; have hO1_f5 := hO1.frozen 5
           simp only [List.getElem?_toArray, List.getElem?_cons_zero, List.getElem?_cons_succ] at hO1_c0 hO1_c1 hO1_c2 hO1_c3 hO1_c4 hO1_c5
           replace hP1 := hP1.below hb5 (by first | omega | exact hP1.lt | (simp; done) | (simp; omega))
           (try clear hP1_c0); (try clear hP1_f0)
           (try clear hP1_c1); (try clear hP1_f1)
           (try clear hP1_c2); (try clear hP1_f2)
           (try clear hP1_c3); (try clear hP1_f3)
           (try clear hP1_c4); (try clear hP1_f4)
           (try clear hP1_c5); (try clear hP1_f5)
           (try clear hP1_lt)
           have hP1_lt := hP1.lt; (try simp only [World.size_alloc] at hP1_lt)
           have hP1_c0 := hP1.cell 0; have hP1_f0 := hP1.frozen 0
           have hP1_c1 := hP1.cell 1; have hP1_f1 := hP1.frozen 1
           have hP1_c2 := hP1.cell 2; have hP1_f2 := hP1.frozen 2
           have hP1_c3 := hP1.cell 3; have hP1_f3 := hP1.frozen 3
           have hP1_c4 := hP1.cell 4; have hP1_f4 := hP1.frozen 4
           have hP1_c5 := hP1.cell 5; have hP1_f5 := hP1.frozen 5
           simp only [List.getElem?_toArray, List.getElem?_cons_zero, List.getElem?_cons_succ] at hP1_c0 hP1_c1 hP1_c2 hP1_c3 hP1_c4 hP1_c5
           clear hb5)
        have HG := Lib.hid (fun (W6 : World) (hX : But (fun k => k = w.heap.size ∨ k = w.heap.size + 1) w5 W6) => HF.out W6 A5 c5 hc5 hm5 (Sl.more (Sl.but hp5 hX (fun k o e hk => by have := hf5 k o _ e; have := hP1_lt0; omega)) hX.size) (hB1.trans (hX.below (fun k hk => by omega) hB1.size)) (hf5.le (by omega)))
        clear hp5 hf5 hB1 HF HPY
        refine ⟨rfl, ?_⟩
        apply Exists.intro
        apply And.intro
        · simp [results, Tryz.results36, go_sem, hO1_c0, hO1_c1, hO1_c2, hO1_c3, hO1_c4, hO1_c5, hO1_lt]; exact rfl
        · exact HG.out _ (by repeat (first | with_reducible exact But.refl _ _ | with_reducible refine But.setCell ?_ (Or.inl (Or.inl rfl)) _ | with_reducible refine But.setCell ?_ (Or.inl (Or.inr rfl)) _ | with_reducible refine But.setCell ?_ (Or.inr (Nat.le_refl _)) _ | with_reducible refine But.alloc ?_ _ | with_reducible refine But.drewN ?_ _ | with_reducible refine But.drew ?_))
    | false =>
      simp only [Bool.false_eq_true, if_false, wPut] at h1 cw0
      go_enter Tryz.func36, Tryz.ntmps36
      go_wp2_with fail
      go_region_held3 (fun w' => w'.cell? ⟨bw, ow, none⟩ = some (.string ⟨#[112, 117, 116]⟩) ∧ w'.cell? ⟨bw, ow + 1, none⟩ = some (.string ⟨a.toArray⟩) ∧ w'.cell? ⟨bw, ow + 2, none⟩ = some (.string ⟨b.toArray⟩)) ((first | go_keep | (repeat' (first | with_reducible assumption | apply And.intro | rw [World.cell?_setCell_other _ _ _ _ (fun e => by injection e; omega)]))))
        (first | (go_at_call 47; first | (with_reducible refine (HNA.out _).mono ?_; rintro e w' ⟨rfl, rfl⟩) | (with_reducible refine (HNB.out _).mono ?_; rintro e w' ⟨rfl, rfl⟩)))
      all_goals
        have hS1 := (hS.alloc (.cells #[.int .i64 na, .int .i64 nb, .int .i64 0, .int .i64 100, .bool false, .bool false] 81)).drew
        have hO1 := (hO.alloc (.cells #[.int .i64 na, .int .i64 nb, .int .i64 0, .int .i64 100, .bool false, .bool false] 81)).drew
        have hP1 := (bk_new1 (w.alloc (.cells #[.int .i64 4, .int .i64 co, .slice A n c, .int .i64 nx, .int .i64 lo, .bool wt] 51)) (.cells #[.int .i64 0, .int .i64 0, .slice none 0 0, .int .i64 0, .int .i64 0, .bool false] 51) 81 #[.int .i64 na, .int .i64 nb, .int .i64 0, .int .i64 100, .bool false, .bool false]).drew
        rw [size1] at hP1
        have hB1 : Below w.heap.size w (((w.alloc (.cells #[.int .i64 4, .int .i64 co, .slice A n c, .int .i64 nx, .int .i64 lo, .bool wt] 51)).alloc (.cells #[.int .i64 0, .int .i64 0, .slice none 0 0, .int .i64 0, .int .i64 0, .bool false] 51)).alloc (.cells #[.int .i64 na, .int .i64 nb, .int .i64 0, .int .i64 100, .bool false, .bool false] 81)).drew := (HBa.out.alloc HBa.out.size _).drew
        generalize (((w.alloc (.cells #[.int .i64 4, .int .i64 co, .slice A n c, .int .i64 nx, .int .i64 lo, .bool wt] 51)).alloc (.cells #[.int .i64 0, .int .i64 0, .slice none 0 0, .int .i64 0, .int .i64 0, .bool false] 51)).alloc (.cells #[.int .i64 na, .int .i64 nb, .int .i64 0, .int .i64 100, .bool false, .bool false] 81)).drew = W1 at *
        clear h1 h2 h3 n1 cw0 cw1 cw2 hS hO
        (try clear hS1_c0); (try clear hS1_f0)
        (try clear hS1_c1); (try clear hS1_f1)
        (try clear hS1_c2); (try clear hS1_f2)
        (try clear hS1_c3); (try clear hS1_f3)
        (try clear hS1_c4); (try clear hS1_f4)
        (try clear hS1_c5); (try clear hS1_f5)
        (try clear hS1_lt)
        have hS1_lt := hS1.lt; (try simp only [World.size_alloc] at hS1_lt)
        have hS1_c0 := hS1.cell 0; have hS1_f0 := hS1.frozen 0
        have hS1_c1 := hS1.cell 1; have hS1_f1 := hS1.frozen 1
        have hS1_c2 := hS1.cell 2; have hS1_f2 := hS1.frozen 2
        have hS1_c3 := hS1.cell 3; have hS1_f3 := hS1.frozen 3
        have hS1_c4 := hS1.cell 4; have hS1_f4 := hS1.frozen 4
        have hS1_c5 := hS1.cell 5; have hS1_f5 := hS1.frozen 5
        simp only [List.getElem?_toArray, List.getElem?_cons_zero, List.getElem?_cons_succ] at hS1_c0 hS1_c1 hS1_c2 hS1_c3 hS1_c4 hS1_c5
        (try clear hO1_c0); (try clear hO1_f0)
        (try clear hO1_c1); (try clear hO1_f1)
        (try clear hO1_c2); (try clear hO1_f2)
        (try clear hO1_c3); (try clear hO1_f3)
        (try clear hO1_c4); (try clear hO1_f4)
        (try clear hO1_c5); (try clear hO1_f5)
        (try clear hO1_lt)
        have hO1_lt := hO1.lt; (try simp only [World.size_alloc] at hO1_lt)
        have hO1_c0 := hO1.cell 0; have hO1_f0 := hO1.frozen 0
        have hO1_c1 := hO1.cell 1; have hO1_f1 := hO1.frozen 1
        have hO1_c2 := hO1.cell 2; have hO1_f2 := hO1.frozen 2
        have hO1_c3 := hO1.cell 3; have hO1_f3 := hO1.frozen 3
        have hO1_c4 := hO1.cell 4; have hO1_f4 := hO1.frozen 4
        have hO1_c5 := hO1.cell 5; have hO1_f5 := hO1.frozen 5
        simp only [List.getElem?_toArray, List.getElem?_cons_zero, List.getElem?_cons_succ] at hO1_c0 hO1_c1 hO1_c2 hO1_c3 hO1_c4 hO1_c5
        (try clear hP1_c0); (try clear hP1_f0)
        (try clear hP1_c1); (try clear hP1_f1)
        (try clear hP1_c2); (try clear hP1_f2)
        (try clear hP1_c3); (try clear hP1_f3)
        (try clear hP1_c4); (try clear hP1_f4)
        (try clear hP1_c5); (try clear hP1_f5)
        (try clear hP1_lt)
        have hP1_lt := hP1.lt; (try simp only [World.size_alloc] at hP1_lt)
        have hP1_c0 := hP1.cell 0; have hP1_f0 := hP1.frozen 0
        have hP1_c1 := hP1.cell 1; have hP1_f1 := hP1.frozen 1
        have hP1_c2 := hP1.cell 2; have hP1_f2 := hP1.frozen 2
        have hP1_c3 := hP1.cell 3; have hP1_f3 := hP1.frozen 3
        have hP1_c4 := hP1.cell 4; have hP1_f4 := hP1.frozen 4
        have hP1_c5 := hP1.cell 5; have hP1_f5 := hP1.frozen 5
        simp only [List.getElem?_toArray, List.getElem?_cons_zero, List.getElem?_cons_succ] at hP1_c0 hP1_c1 hP1_c2 hP1_c3 hP1_c4 hP1_c5
        have hP1_lt0 := hP1.lt
        go_wp2_with
          (go_at_call 48
           refine (HPY.out _ hB1).mono ?_
           rintro e w5 ⟨v, rfl, ⟨A5, c5, rfl, hc5, hm5, hp5, hf5⟩, hb5⟩
           replace hB1 := hB1.trans (hb5.mono hB1.size)
           replace hS1 := hS1.below hb5 (by first | omega | exact hS1.lt | (simp; done) | (simp; omega))
           (try clear hS1_c0); (try clear hS1_f0)
           (try clear hS1_c1); (try clear hS1_f1)
           (try clear hS1_c2); (try clear hS1_f2)
           (try clear hS1_c3); (try clear hS1_f3)
           (try clear hS1_c4); (try clear hS1_f4)
           (try clear hS1_c5); (try clear hS1_f5)
           (try clear hS1_lt)
           have hS1_lt := hS1.lt; (try simp only [World.size_alloc] at hS1_lt)
           have hS1_c0 := hS1.cell 0; have hS1_f0 := hS1.frozen 0
           have hS1_c1 := hS1.cell 1; have hS1_f1 := hS1.frozen 1
           have hS1_c2 := hS1.cell 2; have hS1_f2 := hS1.frozen 2
           have hS1_c3 := hS1.cell 3; have hS1_f3 := hS1.frozen 3
           have hS1_c4 := hS1.cell 4; have hS1_f4 := hS1.frozen 4
           have hS1_c5 := hS1.cell 5; have hS1_f5 := hS1.frozen 5
           simp only [List.getElem?_toArray, List.getElem?_cons_zero, List.getElem?_cons_succ] at hS1_c0 hS1_c1 hS1_c2 hS1_c3 hS1_c4 hS1_c5
           replace hO1 := hO1.below hb5 (by first | omega | exact hO1.lt | (simp; done) | (simp; omega))
           (try clear hO1_c0); (try clear hO1_f0)
           (try clear hO1_c1); (try clear hO1_f1)
           (try clear hO1_c2); (try clear hO1_f2)
           (try clear hO1_c3); (try clear hO1_f3)
           (try clear hO1_c4); (try clear hO1_f4)
           (try clear hO1_c5); (try clear hO1_f5)
           (try clear hO1_lt)
           have hO1_lt := hO1.lt; (try simp only [World.size_alloc] at hO1_lt)
           have hO1_c0 := hO1.cell 0; have hO1_f0 := hO1.frozen 0
           have hO1_c1 := hO1.cell 1; have hO1_f1 := hO1.frozen 1
           have hO1_c2 := hO1.cell 2; have hO1_f2 := hO1.frozen 2
           have hO1_c3 := hO1.cell 3; have hO1_f3 := hO1.frozen 3
           have hO1_c4 := hO1.cell 4; have hO1_f4 := hO1.frozen 4
           have hO1_c5 := hO1.cell 5; have hO1_f5 := hO1.frozen 5
           simp only [List.getElem?_toArray, List.getElem?_cons_zero, List.getElem?_cons_succ] at hO1_c0 hO1_c1 hO1_c2 hO1_c3 hO1_c4 hO1_c5
           replace hP1 := hP1.below hb5 (by first | omega | exact hP1.lt | (simp; done) | (simp; omega))
           (try clear hP1_c0); (try clear hP1_f0)
           (try clear hP1_c1); (try clear hP1_f1)
           (try clear hP1_c2); (try clear hP1_f2)
           (try clear hP1_c3); (try clear hP1_f3)
           (try clear hP1_c4); (try clear hP1_f4)
           (try clear hP1_c5); (try clear hP1_f5)
           (try clear hP1_lt)
           have hP1_lt := hP1.lt; (try simp only [World.size_alloc] at hP1_lt)
           have hP1_c0 := hP1.cell 0; have hP1_f0 := hP1.frozen 0
           have hP1_c1 := hP1.cell 1; have hP1_f1 := hP1.frozen 1
           have hP1_c2 := hP1.cell 2; have hP1_f2 := hP1.frozen 2
           have hP1_c3 := hP1.cell 3; have hP1_f3 := hP1.frozen 3
           have hP1_c4 := hP1.cell 4; have hP1_f4 := hP1.frozen 4
           have hP1_c5 := hP1.cell 5; have hP1_f5 := hP1.frozen 5
           simp only [List.getElem?_toArray, List.getElem?_cons_zero, List.getElem?_cons_succ] at hP1_c0 hP1_c1 hP1_c2 hP1_c3 hP1_c4 hP1_c5
           clear hb5)
        have HG := Lib.hid (fun (W6 : World) (hX : But (fun k => k = w.heap.size ∨ k = w.heap.size + 1) w5 W6) => HF.out W6 A5 c5 hc5 hm5 (Sl.more (Sl.but hp5 hX (fun k o e hk => by have := hf5 k o _ e; have := hP1_lt0; omega)) hX.size) (hB1.trans (hX.below (fun k hk => by omega) hB1.size)) (hf5.le (by omega)))
        clear hp5 hf5 hB1 HF HPY
        refine ⟨rfl, ?_⟩
        apply Exists.intro
        apply And.intro
        · simp [results, Tryz.results36, go_sem, hO1_c0, hO1_c1, hO1_c2, hO1_c3, hO1_c4, hO1_c5, hO1_lt]; exact rfl
        · exact HG.out _ (by repeat (first | with_reducible exact But.refl _ _ | with_reducible refine But.setCell ?_ (Or.inl (Or.inl rfl)) _ | with_reducible refine But.setCell ?_ (Or.inl (Or.inr rfl)) _ | with_reducible refine But.setCell ?_ (Or.inr (Nat.le_refl _)) _ | with_reducible refine But.alloc ?_ _ | with_reducible refine But.drewN ?_ _ | with_reducible refine But.drew ?_))
  · have hr := HN.out hin
    subst hr
    have HPN := Lib.hid (fun (w' : World) (hw : Below w.heap.size w w') => (HP.out w' hw).mono fun e w2 hh => hh.2 hin)
    unfold RgBad at HPN
    have HF := Lib.hid (fun (w' : World) (h4 : Below w.heap.size w w') => (show StRet N0 (s, wNo) w (.returned (.tuple #[.agg #[.int .i64 4, .int .i64 s.co, .slice A s.xs.length c, .int .i64 s.nx, .int .i64 s.lo, .bool s.wt], .string ⟨#[110, 111, 10]⟩])) w' from ⟨A, c, rfl, by show s.xs.length ≤ c; rw [HXS.out]; exact hc, hcm, by have h5 := HPK.out.below h4; rw [HXS.out]; exact h5.more h4.size, h4, by show OldNew N0 w.heap.size s.xs.length A; rw [HXS.out]; exact HOLD.out⟩))
    rw [HXS.out, HCO.out, HNX.out, HLO.out, HWT.out] at HF
    generalize StRet N0 (s, wNo) w = R at *
    clear HP HY HN hin
    cases ky with
    | true =>
      simp only [if_true, wKey] at h1 cw0
      go_enter Tryz.func36, Tryz.ntmps36
      go_wp2_with fail
      go_region_held3 (fun w' => w'.cell? ⟨bw, ow, none⟩ = some (.string ⟨#[107, 101, 121]⟩) ∧ w'.cell? ⟨bw, ow + 1, none⟩ = some (.string ⟨a.toArray⟩) ∧ w'.cell? ⟨bw, ow + 2, none⟩ = some (.string ⟨b.toArray⟩)) ((first | go_keep | (repeat' (first | with_reducible assumption | apply And.intro | rw [World.cell?_setCell_other _ _ _ _ (fun e => by injection e; omega)]))))
        (first | (go_at_call 47; first | (with_reducible refine (HNA.out _).mono ?_; rintro e w' ⟨rfl, rfl⟩) | (with_reducible refine (HNB.out _).mono ?_; rintro e w' ⟨rfl, rfl⟩)))
      all_goals
        have hS1 := (hS.alloc (.cells #[.int .i64 na, .int .i64 nb, .int .i64 0, .int .i64 100, .bool true, .bool false] 81)).drew
        have hO1 := (hO.alloc (.cells #[.int .i64 na, .int .i64 nb, .int .i64 0, .int .i64 100, .bool true, .bool false] 81)).drew
        have hP1 := (bk_new1 (w.alloc (.cells #[.int .i64 4, .int .i64 co, .slice A n c, .int .i64 nx, .int .i64 lo, .bool wt] 51)) (.cells #[.int .i64 0, .int .i64 0, .slice none 0 0, .int .i64 0, .int .i64 0, .bool false] 51) 81 #[.int .i64 na, .int .i64 nb, .int .i64 0, .int .i64 100, .bool true, .bool false]).drew
        rw [size1] at hP1
        have hB1 : Below w.heap.size w (((w.alloc (.cells #[.int .i64 4, .int .i64 co, .slice A n c, .int .i64 nx, .int .i64 lo, .bool wt] 51)).alloc (.cells #[.int .i64 0, .int .i64 0, .slice none 0 0, .int .i64 0, .int .i64 0, .bool false] 51)).alloc (.cells #[.int .i64 na, .int .i64 nb, .int .i64 0, .int .i64 100, .bool true, .bool false] 81)).drew := (HBa.out.alloc HBa.out.size _).drew
        generalize (((w.alloc (.cells #[.int .i64 4, .int .i64 co, .slice A n c, .int .i64 nx, .int .i64 lo, .bool wt] 51)).alloc (.cells #[.int .i64 0, .int .i64 0, .slice none 0 0, .int .i64 0, .int .i64 0, .bool false] 51)).alloc (.cells #[.int .i64 na, .int .i64 nb, .int .i64 0, .int .i64 100, .bool true, .bool false] 81)).drew = W1 at *
        clear h1 h2 h3 n1 cw0 cw1 cw2 hS hO
        (try clear hS1_c0); (try clear hS1_f0)
        (try clear hS1_c1); (try clear hS1_f1)
        (try clear hS1_c2); (try clear hS1_f2)
        (try clear hS1_c3); (try clear hS1_f3)
        (try clear hS1_c4); (try clear hS1_f4)
        (try clear hS1_c5); (try clear hS1_f5)
        (try clear hS1_lt)
        have hS1_lt := hS1.lt; (try simp only [World.size_alloc] at hS1_lt)
        have hS1_c0 := hS1.cell 0; have hS1_f0 := hS1.frozen 0
        have hS1_c1 := hS1.cell 1; have hS1_f1 := hS1.frozen 1
        have hS1_c2 := hS1.cell 2; have hS1_f2 := hS1.frozen 2
        have hS1_c3 := hS1.cell 3; have hS1_f3 := hS1.frozen 3
        have hS1_c4 := hS1.cell 4; have hS1_f4 := hS1.frozen 4
        have hS1_c5 := hS1.cell 5; have hS1_f5 := hS1.frozen 5
        simp only [List.getElem?_toArray, List.getElem?_cons_zero, List.getElem?_cons_succ] at hS1_c0 hS1_c1 hS1_c2 hS1_c3 hS1_c4 hS1_c5
        (try clear hO1_c0); (try clear hO1_f0)
        (try clear hO1_c1); (try clear hO1_f1)
        (try clear hO1_c2); (try clear hO1_f2)
        (try clear hO1_c3); (try clear hO1_f3)
        (try clear hO1_c4); (try clear hO1_f4)
        (try clear hO1_c5); (try clear hO1_f5)
        (try clear hO1_lt)
        have hO1_lt := hO1.lt; (try simp only [World.size_alloc] at hO1_lt)
        have hO1_c0 := hO1.cell 0; have hO1_f0 := hO1.frozen 0
        have hO1_c1 := hO1.cell 1; have hO1_f1 := hO1.frozen 1
        have hO1_c2 := hO1.cell 2; have hO1_f2 := hO1.frozen 2
        have hO1_c3 := hO1.cell 3; have hO1_f3 := hO1.frozen 3
        have hO1_c4 := hO1.cell 4; have hO1_f4 := hO1.frozen 4
        have hO1_c5 := hO1.cell 5; have hO1_f5 := hO1.frozen 5
        simp only [List.getElem?_toArray, List.getElem?_cons_zero, List.getElem?_cons_succ] at hO1_c0 hO1_c1 hO1_c2 hO1_c3 hO1_c4 hO1_c5
        (try clear hP1_c0); (try clear hP1_f0)
        (try clear hP1_c1); (try clear hP1_f1)
        (try clear hP1_c2); (try clear hP1_f2)
        (try clear hP1_c3); (try clear hP1_f3)
        (try clear hP1_c4); (try clear hP1_f4)
        (try clear hP1_c5); (try clear hP1_f5)
        (try clear hP1_lt)
        have hP1_lt := hP1.lt; (try simp only [World.size_alloc] at hP1_lt)
        have hP1_c0 := hP1.cell 0; have hP1_f0 := hP1.frozen 0
        have hP1_c1 := hP1.cell 1; have hP1_f1 := hP1.frozen 1
        have hP1_c2 := hP1.cell 2; have hP1_f2 := hP1.frozen 2
        have hP1_c3 := hP1.cell 3; have hP1_f3 := hP1.frozen 3
        have hP1_c4 := hP1.cell 4; have hP1_f4 := hP1.frozen 4
        have hP1_c5 := hP1.cell 5; have hP1_f5 := hP1.frozen 5
        simp only [List.getElem?_toArray, List.getElem?_cons_zero, List.getElem?_cons_succ] at hP1_c0 hP1_c1 hP1_c2 hP1_c3 hP1_c4 hP1_c5
        go_wp2_with
          (go_at_call 48
           refine (HPN.out _ hB1).mono ?_
           rintro e w5 ⟨rfl, hb5⟩
           replace hB1 := hB1.trans (hb5.mono hB1.size)
           replace hS1 := hS1.below hb5 (by first | omega | exact hS1.lt | (simp; done) | (simp; omega))
           (try clear hS1_c0); (try clear hS1_f0)
           (try clear hS1_c1); (try clear hS1_f1)
           (try clear hS1_c2); (try clear hS1_f2)
           (try clear hS1_c3); (try clear hS1_f3)
           (try clear hS1_c4); (try clear hS1_f4)
           (try clear hS1_c5); (try clear hS1_f5)
           (try clear hS1_lt)
           have hS1_lt := hS1.lt; (try simp only [World.size_alloc] at hS1_lt)
           have hS1_c0 := hS1.cell 0; have hS1_f0 := hS1.frozen 0
           have hS1_c1 := hS1.cell 1; have hS1_f1 := hS1.frozen 1
           have hS1_c2 := hS1.cell 2; have hS1_f2 := hS1.frozen 2
           have hS1_c3 := hS1.cell 3; have hS1_f3 := hS1.frozen 3
           have hS1_c4 := hS1.cell 4; have hS1_f4 := hS1.frozen 4
           have hS1_c5 := hS1.cell 5; have hS1_f5 := hS1.frozen 5
           simp only [List.getElem?_toArray, List.getElem?_cons_zero, List.getElem?_cons_succ] at hS1_c0 hS1_c1 hS1_c2 hS1_c3 hS1_c4 hS1_c5
           replace hO1 := hO1.below hb5 (by first | omega | exact hO1.lt | (simp; done) | (simp; omega))
           (try clear hO1_c0); (try clear hO1_f0)
           (try clear hO1_c1); (try clear hO1_f1)
           (try clear hO1_c2); (try clear hO1_f2)
           (try clear hO1_c3); (try clear hO1_f3)
           (try clear hO1_c4); (try clear hO1_f4)
           (try clear hO1_c5); (try clear hO1_f5)
           (try clear hO1_lt)
           have hO1_lt := hO1.lt; (try simp only [World.size_alloc] at hO1_lt)
           have hO1_c0 := hO1.cell 0; have hO1_f0 := hO1.frozen 0
           have hO1_c1 := hO1.cell 1; have hO1_f1 := hO1.frozen 1
           have hO1_c2 := hO1.cell 2; have hO1_f2 := hO1.frozen 2
           have hO1_c3 := hO1.cell 3; have hO1_f3 := hO1.frozen 3
           have hO1_c4 := hO1.cell 4; have hO1_f4 := hO1.frozen 4
           have hO1_c5 := hO1.cell 5; have hO1_f5 := hO1.frozen 5
           simp only [List.getElem?_toArray, List.getElem?_cons_zero, List.getElem?_cons_succ] at hO1_c0 hO1_c1 hO1_c2 hO1_c3 hO1_c4 hO1_c5
           replace hP1 := hP1.below hb5 (by first | omega | exact hP1.lt | (simp; done) | (simp; omega))
           (try clear hP1_c0); (try clear hP1_f0)
           (try clear hP1_c1); (try clear hP1_f1)
           (try clear hP1_c2); (try clear hP1_f2)
           (try clear hP1_c3); (try clear hP1_f3)
           (try clear hP1_c4); (try clear hP1_f4)
           (try clear hP1_c5); (try clear hP1_f5)
           (try clear hP1_lt)
           have hP1_lt := hP1.lt; (try simp only [World.size_alloc] at hP1_lt)
           have hP1_c0 := hP1.cell 0; have hP1_f0 := hP1.frozen 0
           have hP1_c1 := hP1.cell 1; have hP1_f1 := hP1.frozen 1
           have hP1_c2 := hP1.cell 2; have hP1_f2 := hP1.frozen 2
           have hP1_c3 := hP1.cell 3; have hP1_f3 := hP1.frozen 3
           have hP1_c4 := hP1.cell 4; have hP1_f4 := hP1.frozen 4
           have hP1_c5 := hP1.cell 5; have hP1_f5 := hP1.frozen 5
           simp only [List.getElem?_toArray, List.getElem?_cons_zero, List.getElem?_cons_succ] at hP1_c0 hP1_c1 hP1_c2 hP1_c3 hP1_c4 hP1_c5
           clear hb5)
        refine ⟨rfl, ?_⟩
        apply Exists.intro
        apply And.intro
        · simp [results, Tryz.results36, go_sem, hO1_c0, hO1_c1, hO1_c2, hO1_c3, hO1_c4, hO1_c5, hO1_lt]; exact rfl
        · exact HF.out _ (by repeat (first | with_reducible exact hB1 | with_reducible exact hB1.size | with_reducible exact le1 w | with_reducible exact le2 w | with_reducible exact le3 w | with_reducible refine Below.setCell ?_ ?_ _ | with_reducible refine Below.alloc ?_ ?_ _ | with_reducible refine Below.drewN' ?_ _ | with_reducible refine Below.drew ?_ | with_reducible exact Nat.le_refl _ | with_reducible refine le_set ?_ | with_reducible refine le_all ?_))
    | false =>
      simp only [Bool.false_eq_true, if_false, wPut] at h1 cw0
      go_enter Tryz.func36, Tryz.ntmps36
      go_wp2_with fail
      go_region_held3 (fun w' => w'.cell? ⟨bw, ow, none⟩ = some (.string ⟨#[112, 117, 116]⟩) ∧ w'.cell? ⟨bw, ow + 1, none⟩ = some (.string ⟨a.toArray⟩) ∧ w'.cell? ⟨bw, ow + 2, none⟩ = some (.string ⟨b.toArray⟩)) ((first | go_keep | (repeat' (first | with_reducible assumption | apply And.intro | rw [World.cell?_setCell_other _ _ _ _ (fun e => by injection e; omega)]))))
        (first | (go_at_call 47; first | (with_reducible refine (HNA.out _).mono ?_; rintro e w' ⟨rfl, rfl⟩) | (with_reducible refine (HNB.out _).mono ?_; rintro e w' ⟨rfl, rfl⟩)))
      all_goals
        have hS1 := (hS.alloc (.cells #[.int .i64 na, .int .i64 nb, .int .i64 0, .int .i64 100, .bool false, .bool false] 81)).drew
        have hO1 := (hO.alloc (.cells #[.int .i64 na, .int .i64 nb, .int .i64 0, .int .i64 100, .bool false, .bool false] 81)).drew
        have hP1 := (bk_new1 (w.alloc (.cells #[.int .i64 4, .int .i64 co, .slice A n c, .int .i64 nx, .int .i64 lo, .bool wt] 51)) (.cells #[.int .i64 0, .int .i64 0, .slice none 0 0, .int .i64 0, .int .i64 0, .bool false] 51) 81 #[.int .i64 na, .int .i64 nb, .int .i64 0, .int .i64 100, .bool false, .bool false]).drew
        rw [size1] at hP1
        have hB1 : Below w.heap.size w (((w.alloc (.cells #[.int .i64 4, .int .i64 co, .slice A n c, .int .i64 nx, .int .i64 lo, .bool wt] 51)).alloc (.cells #[.int .i64 0, .int .i64 0, .slice none 0 0, .int .i64 0, .int .i64 0, .bool false] 51)).alloc (.cells #[.int .i64 na, .int .i64 nb, .int .i64 0, .int .i64 100, .bool false, .bool false] 81)).drew := (HBa.out.alloc HBa.out.size _).drew
        generalize (((w.alloc (.cells #[.int .i64 4, .int .i64 co, .slice A n c, .int .i64 nx, .int .i64 lo, .bool wt] 51)).alloc (.cells #[.int .i64 0, .int .i64 0, .slice none 0 0, .int .i64 0, .int .i64 0, .bool false] 51)).alloc (.cells #[.int .i64 na, .int .i64 nb, .int .i64 0, .int .i64 100, .bool false, .bool false] 81)).drew = W1 at *
        clear h1 h2 h3 n1 cw0 cw1 cw2 hS hO
        (try clear hS1_c0); (try clear hS1_f0)
        (try clear hS1_c1); (try clear hS1_f1)
        (try clear hS1_c2); (try clear hS1_f2)
        (try clear hS1_c3); (try clear hS1_f3)
        (try clear hS1_c4); (try clear hS1_f4)
        (try clear hS1_c5); (try clear hS1_f5)
        (try clear hS1_lt)
        have hS1_lt := hS1.lt; (try simp only [World.size_alloc] at hS1_lt)
        have hS1_c0 := hS1.cell 0; have hS1_f0 := hS1.frozen 0
        have hS1_c1 := hS1.cell 1; have hS1_f1 := hS1.frozen 1
        have hS1_c2 := hS1.cell 2; have hS1_f2 := hS1.frozen 2
        have hS1_c3 := hS1.cell 3; have hS1_f3 := hS1.frozen 3
        have hS1_c4 := hS1.cell 4; have hS1_f4 := hS1.frozen 4
        have hS1_c5 := hS1.cell 5; have hS1_f5 := hS1.frozen 5
        simp only [List.getElem?_toArray, List.getElem?_cons_zero, List.getElem?_cons_succ] at hS1_c0 hS1_c1 hS1_c2 hS1_c3 hS1_c4 hS1_c5
        (try clear hO1_c0); (try clear hO1_f0)
        (try clear hO1_c1); (try clear hO1_f1)
        (try clear hO1_c2); (try clear hO1_f2)
        (try clear hO1_c3); (try clear hO1_f3)
        (try clear hO1_c4); (try clear hO1_f4)
        (try clear hO1_c5); (try clear hO1_f5)
        (try clear hO1_lt)
        have hO1_lt := hO1.lt; (try simp only [World.size_alloc] at hO1_lt)
        have hO1_c0 := hO1.cell 0; have hO1_f0 := hO1.frozen 0
        have hO1_c1 := hO1.cell 1; have hO1_f1 := hO1.frozen 1
        have hO1_c2 := hO1.cell 2; have hO1_f2 := hO1.frozen 2
        have hO1_c3 := hO1.cell 3; have hO1_f3 := hO1.frozen 3
        have hO1_c4 := hO1.cell 4; have hO1_f4 := hO1.frozen 4
        have hO1_c5 := hO1.cell 5; have hO1_f5 := hO1.frozen 5
        simp only [List.getElem?_toArray, List.getElem?_cons_zero, List.getElem?_cons_succ] at hO1_c0 hO1_c1 hO1_c2 hO1_c3 hO1_c4 hO1_c5
        (try clear hP1_c0); (try clear hP1_f0)
        (try clear hP1_c1); (try clear hP1_f1)
        (try clear hP1_c2); (try clear hP1_f2)
        (try clear hP1_c3); (try clear hP1_f3)
        (try clear hP1_c4); (try clear hP1_f4)
        (try clear hP1_c5); (try clear hP1_f5)
        (try clear hP1_lt)
        have hP1_lt := hP1.lt; (try simp only [World.size_alloc] at hP1_lt)
        have hP1_c0 := hP1.cell 0; have hP1_f0 := hP1.frozen 0
        have hP1_c1 := hP1.cell 1; have hP1_f1 := hP1.frozen 1
        have hP1_c2 := hP1.cell 2; have hP1_f2 := hP1.frozen 2
        have hP1_c3 := hP1.cell 3; have hP1_f3 := hP1.frozen 3
        have hP1_c4 := hP1.cell 4; have hP1_f4 := hP1.frozen 4
        have hP1_c5 := hP1.cell 5; have hP1_f5 := hP1.frozen 5
        simp only [List.getElem?_toArray, List.getElem?_cons_zero, List.getElem?_cons_succ] at hP1_c0 hP1_c1 hP1_c2 hP1_c3 hP1_c4 hP1_c5
        go_wp2_with
          (go_at_call 48
           refine (HPN.out _ hB1).mono ?_
           rintro e w5 ⟨rfl, hb5⟩
           replace hB1 := hB1.trans (hb5.mono hB1.size)
           replace hS1 := hS1.below hb5 (by first | omega | exact hS1.lt | (simp; done) | (simp; omega))
           (try clear hS1_c0); (try clear hS1_f0)
           (try clear hS1_c1); (try clear hS1_f1)
           (try clear hS1_c2); (try clear hS1_f2)
           (try clear hS1_c3); (try clear hS1_f3)
           (try clear hS1_c4); (try clear hS1_f4)
           (try clear hS1_c5); (try clear hS1_f5)
           (try clear hS1_lt)
           have hS1_lt := hS1.lt; (try simp only [World.size_alloc] at hS1_lt)
           have hS1_c0 := hS1.cell 0; have hS1_f0 := hS1.frozen 0
           have hS1_c1 := hS1.cell 1; have hS1_f1 := hS1.frozen 1
           have hS1_c2 := hS1.cell 2; have hS1_f2 := hS1.frozen 2
           have hS1_c3 := hS1.cell 3; have hS1_f3 := hS1.frozen 3
           have hS1_c4 := hS1.cell 4; have hS1_f4 := hS1.frozen 4
           have hS1_c5 := hS1.cell 5; have hS1_f5 := hS1.frozen 5
           simp only [List.getElem?_toArray, List.getElem?_cons_zero, List.getElem?_cons_succ] at hS1_c0 hS1_c1 hS1_c2 hS1_c3 hS1_c4 hS1_c5
           replace hO1 := hO1.below hb5 (by first | omega | exact hO1.lt | (simp; done) | (simp; omega))
           (try clear hO1_c0); (try clear hO1_f0)
           (try clear hO1_c1); (try clear hO1_f1)
           (try clear hO1_c2); (try clear hO1_f2)
           (try clear hO1_c3); (try clear hO1_f3)
           (try clear hO1_c4); (try clear hO1_f4)
           (try clear hO1_c5); (try clear hO1_f5)
           (try clear hO1_lt)
           have hO1_lt := hO1.lt; (try simp only [World.size_alloc] at hO1_lt)
           have hO1_c0 := hO1.cell 0; have hO1_f0 := hO1.frozen 0
           have hO1_c1 := hO1.cell 1; have hO1_f1 := hO1.frozen 1
           have hO1_c2 := hO1.cell 2; have hO1_f2 := hO1.frozen 2
           have hO1_c3 := hO1.cell 3; have hO1_f3 := hO1.frozen 3
           have hO1_c4 := hO1.cell 4; have hO1_f4 := hO1.frozen 4
           have hO1_c5 := hO1.cell 5; have hO1_f5 := hO1.frozen 5
           simp only [List.getElem?_toArray, List.getElem?_cons_zero, List.getElem?_cons_succ] at hO1_c0 hO1_c1 hO1_c2 hO1_c3 hO1_c4 hO1_c5
           replace hP1 := hP1.below hb5 (by first | omega | exact hP1.lt | (simp; done) | (simp; omega))
           (try clear hP1_c0); (try clear hP1_f0)
           (try clear hP1_c1); (try clear hP1_f1)
           (try clear hP1_c2); (try clear hP1_f2)
           (try clear hP1_c3); (try clear hP1_f3)
           (try clear hP1_c4); (try clear hP1_f4)
           (try clear hP1_c5); (try clear hP1_f5)
           (try clear hP1_lt)
           have hP1_lt := hP1.lt; (try simp only [World.size_alloc] at hP1_lt)
           have hP1_c0 := hP1.cell 0; have hP1_f0 := hP1.frozen 0
           have hP1_c1 := hP1.cell 1; have hP1_f1 := hP1.frozen 1
           have hP1_c2 := hP1.cell 2; have hP1_f2 := hP1.frozen 2
           have hP1_c3 := hP1.cell 3; have hP1_f3 := hP1.frozen 3
           have hP1_c4 := hP1.cell 4; have hP1_f4 := hP1.frozen 4
           have hP1_c5 := hP1.cell 5; have hP1_f5 := hP1.frozen 5
           simp only [List.getElem?_toArray, List.getElem?_cons_zero, List.getElem?_cons_succ] at hP1_c0 hP1_c1 hP1_c2 hP1_c3 hP1_c4 hP1_c5
           clear hb5)
        refine ⟨rfl, ?_⟩
        apply Exists.intro
        apply And.intro
        · simp [results, Tryz.results36, go_sem, hO1_c0, hO1_c1, hO1_c2, hO1_c3, hO1_c4, hO1_c5, hO1_lt]; exact rfl
        · exact HF.out _ (by repeat (first | with_reducible exact hB1 | with_reducible exact hB1.size | with_reducible exact le1 w | with_reducible exact le2 w | with_reducible exact le3 w | with_reducible refine Below.setCell ?_ ?_ _ | with_reducible refine Below.alloc ?_ ?_ _ | with_reducible refine Below.drewN' ?_ _ | with_reducible refine Below.drew ?_ | with_reducible exact Nat.le_refl _ | with_reducible refine le_set ?_ | with_reducible refine le_all ?_))
end Go.Proofs.YthbkmnladaneaaaGreatDoor
