/-
  Scripts: a line, in the reference.
  Conditions: the state is valid (scOk), its packets lie at the world; the line has at most 500 bytes.
-/
import Derived.Test.YthbkmnladaneaaaGreatDoorScW
namespace Go.Proofs.YthbkmnladaneaaaGreatDoor
open Go.RowKit
set_option linter.unusedVariables false
set_option linter.unusedSimpArgs false
set_option maxRecDepth 100000

theorem splitL_one {c : UInt8} : ∀ {l x : List UInt8}, splitL c l = [x] → l = x
  | [], x, h => by
    simp [splitL] at h
    exact h.symm
  | b :: l, x, h => by
    unfold splitL at h
    split at h
    · injection h with h1 h2
      exact absurd h2 (splitL_ne c l)
    · split at h
      · rename_i e; exact absurd e (splitL_ne c l)
      · rename_i x' r e
        injection h with h1 h2
        subst h2
        rw [splitL_one e, h1]
theorem lineS_1 {s : Sc} {l x : List UInt8} (h : splitL 32 l = [x]) : lineS s l = if x = wRead then readS s else if x = wNew then (newS s, wOk) else if x = wRing then (s, wRingB ++ dI (oldI s) ++ [32] ++ dI s.co) else (s, wWhat) := by
  unfold lineS; rw [h]
theorem lineS_3 {s : Sc} {l x a b : List UInt8} (h : splitL 32 l = [x, a, b]) : lineS s l = if x = wKey ∨ x = wPut then putW s (decide (x = wKey)) a b else if x = wWide then (s, wideW a b) else (s, wWhat) := by
  unfold lineS; rw [h]
  rfl
theorem lineS_o {s : Sc} {l : List UInt8} (h1 : (splitL 32 l).length ≠ 1) (h3 : (splitL 32 l).length ≠ 3) : lineS s l = (s, wWhat) := by
  unfold lineS
  split
  · rename_i e; rw [e] at h1; exact absurd rfl h1
  · rename_i e; rw [e] at h3; exact absurd rfl h3
  · rfl
theorem Sl.far {w w' : World} {B size n : Nat} {A : Option Addr} {xs : List Value} {X : Nat → Prop} (h : Sl w B size A n xs) (hb : But X w w') (hX : 0 < n → ∀ k o, A = some ⟨k, o, none⟩ → ¬ X k) : Sl w' B size A n xs :=
  ⟨h.1, fun hn => by
    obtain ⟨b, off, e, hlt, hc⟩ := h.2 hn
    exact ⟨b, off, e, hlt, fun j u hu => hb.cell (hc j u hu) (hX hn b off e)⟩⟩
theorem stRet_end {N0 : Nat} {r : Sc × List UInt8} {w w1 w2 : World} {A2 : Option Addr} {c2 : Nat} (hc2 : r.1.xs.length ≤ c2) (hm2 : c2 ≤ maxLen) (hp2 : Pks w2 w2.heap.size A2 r.1.xs.length r.1.xs) (hb : Below w.heap.size w w2) (hf : OldNew N0 w1.heap.size r.1.xs.length A2) (hN : N0 ≤ w.heap.size)
    (hw1 : w.heap.size + 1 < w1.heap.size) (w3 : World) (hX : But (fun k => k = w.heap.size ∨ k = w.heap.size + 1) w2 w3) : StRet N0 r w (.returned (.tuple #[stV r.1 A2 c2, sV (r.2 ++ [10])])) w3 :=
  ⟨A2, c2, rfl, hc2, hm2, Sl.more (Sl.far hp2 hX fun hn k o e hk => by have := hf hn k o e; omega) hX.size, hb.trans (hX.below (fun k hk => by omega) hb.size), hf.le (by omega)⟩
theorem tl_eq {t : ByteArray} {x : List UInt8} (h : t.data.toList = x) : t.toList = x := by rw [ByteArray.toList_eq]; exact h

set_option maxHeartbeats 2000000 in
theorem sline_read (s : Sc) (A : Option Addr) (c : Nat) (t : ByteArray) (w : World) (N0 : Nat) (h0 : Pks w N0 A s.xs.length s.xs) (hN0 : N0 ≤ w.heap.size) (hc : s.xs.length ≤ c) (hcm : c ≤ maxLen) (hok : scOk s) (ht : t.size ≤ 500) (hsp : splitL 32 t.data.toList = [wRead]) :
    Calls Tryz.prog 26 #[stV s A c, .string t] w (StRet N0 (readS s) w) := by
  have h := h0.more hN0
  have hl := scOk_len hok
  have HC := Lib.hid (fun w => scut_any t w ht)
  unfold CutRet at HC
  rw [hsp] at HC
  have hx := splitL_one hsp
  have e1 : (t.toList == [114, 101, 97, 100]) = true := by rw [tl_eq hx]; rfl
  have HR := Lib.hid (fun (w' : World) (hw : Below w.heap.size w w') => sread_any s A c w' N0 (h0.below (hw.mono hN0)) (by have := hw.size; omega) hc hcm hok)
  unfold StRet at HR
  generalize readS s = r at *
  obtain ⟨⟨co2, xs2, nx2, lo2, wt2⟩, o2⟩ := r
  unfold stV sV at HR
  have HE := Lib.hid (fun (w1 w2 w3 : World) (A2 : Option Addr) (c2 : Nat) (a1 : xs2.length ≤ c2) (a2 : c2 ≤ maxLen) (a3 : Pks w2 w2.heap.size A2 xs2.length xs2) (a4 : Below w.heap.size w w2) (a5 : OldNew N0 w1.heap.size xs2.length A2) (a6 : w.heap.size + 1 < w1.heap.size) (a7 : But (fun k => k = w.heap.size ∨ k = w.heap.size + 1) w2 w3) => (show StRet N0 (⟨co2, xs2, nx2, lo2, wt2⟩, o2) w (.returned (.tuple #[.agg #[.int .i64 4, .int .i64 co2, .slice A2 xs2.length c2, .int .i64 nx2, .int .i64 lo2, .bool wt2], .string (ByteArray.mk (o2 ++ [10] : List UInt8).toArray)])) w3 from stRet_end (r := (⟨co2, xs2, nx2, lo2, wt2⟩, o2)) a1 a2 a3 a4 a5 hN0 a6 w3 a7))
  generalize StRet N0 (⟨co2, xs2, nx2, lo2, wt2⟩, o2) w = R at *
  simp only at HR
  generalize o2 ++ [10] = o3 at *
  generalize xs2.length = n2 at *
  clear h h0 hok hsp
  unfold stV at *
  generalize s.xs.length = n at *
  generalize s.co = co at *
  generalize s.nx = nx at *
  generalize s.lo = lo at *
  generalize s.wt = wt at *
  have hS := (Bk.new w 51 #[.int .i64 4, .int .i64 co, .slice A n c, .int .i64 nx, .int .i64 lo, .bool wt]).alloc (.cells #[.int .i64 0, .int .i64 0, .slice none 0 0, .int .i64 0, .int .i64 0, .bool false] 51)
  have hO := bk_new1 w (.cells #[.int .i64 4, .int .i64 co, .slice A n c, .int .i64 nx, .int .i64 lo, .bool wt] 51) 51 #[.int .i64 0, .int .i64 0, .slice none 0 0, .int .i64 0, .int .i64 0, .bool false]
  have hBa : Below w.heap.size w ((w.alloc (.cells #[.int .i64 4, .int .i64 co, .slice A n c, .int .i64 nx, .int .i64 lo, .bool wt] 51)).alloc (.cells #[.int .i64 0, .int .i64 0, .slice none 0 0, .int .i64 0, .int .i64 0, .bool false] 51)) := (by repeat (first | exact Below.refl _ _ | assumption | refine Below.setCell ?_ (by first | omega | (simp; done) | (simp; omega)) _ | refine Below.alloc ?_ (by first | omega | (simp; done) | (simp; omega)) _ | refine Below.drew ?_ | refine Below.drewN' ?_ _ | refine Below.trans ?_ (Below.mono (by assumption) (by first | omega | (simp; done) | (simp; omega)))))
  go_enter Tryz.func26, Tryz.ntmps26
  go_wp2_with fail
  refine (HC.out _).mono ?_
  rintro e w1 ⟨v, rfl, hown, hb1⟩
  obtain ⟨Aw, cw, rfl, h1, h2, h3⟩ := own_shape hown
  clear hown
  obtain ⟨bw, ow, rfl, hbw, hcw⟩ := h3.2 (by simp)
  have cw0 := hcw 0 _ rfl
  simp only [Nat.add_zero] at cw0
  unfold sV at cw0
  clear hcw
  simp only [wRead] at cw0
  clear hx
  simp only [List.length_cons, List.length_nil, Nat.zero_add] at *
  replace hBa := hBa.trans (hb1.mono hBa.size)
  replace hS := hS.below hb1 (by first | omega | exact hS.lt | (simp; done) | (simp; omega))
  (try clear hS_c0); (try clear hS_f0)
  (try clear hS_c1); (try clear hS_f1)
  (try clear hS_c2); (try clear hS_f2)
  (try clear hS_c3); (try clear hS_f3)
  (try clear hS_c4); (try clear hS_f4)
  (try clear hS_c5); (try clear hS_f5)
  (try clear hS_lt)
  have hS_lt := hS.lt; (try simp only [World.size_alloc] at hS_lt)
  have hS_c0 := hS.cell 0; have hS_f0 := hS.frozen 0
  have hS_c1 := hS.cell 1; have hS_f1 := hS.frozen 1
  have hS_c2 := hS.cell 2; have hS_f2 := hS.frozen 2
  have hS_c3 := hS.cell 3; have hS_f3 := hS.frozen 3
  have hS_c4 := hS.cell 4; have hS_f4 := hS.frozen 4
  have hS_c5 := hS.cell 5; have hS_f5 := hS.frozen 5
  simp only [List.getElem?_toArray, List.getElem?_cons_zero, List.getElem?_cons_succ] at hS_c0 hS_c1 hS_c2 hS_c3 hS_c4 hS_c5
  replace hO := hO.below hb1 (by first | omega | exact hO.lt | (simp; done) | (simp; omega))
  (try clear hO_c0); (try clear hO_f0)
  (try clear hO_c1); (try clear hO_f1)
  (try clear hO_c2); (try clear hO_f2)
  (try clear hO_c3); (try clear hO_f3)
  (try clear hO_c4); (try clear hO_f4)
  (try clear hO_c5); (try clear hO_f5)
  (try clear hO_lt)
  have hO_lt := hO.lt; (try simp only [World.size_alloc] at hO_lt)
  have hO_c0 := hO.cell 0; have hO_f0 := hO.frozen 0
  have hO_c1 := hO.cell 1; have hO_f1 := hO.frozen 1
  have hO_c2 := hO.cell 2; have hO_f2 := hO.frozen 2
  have hO_c3 := hO.cell 3; have hO_f3 := hO.frozen 3
  have hO_c4 := hO.cell 4; have hO_f4 := hO.frozen 4
  have hO_c5 := hO.cell 5; have hO_f5 := hO.frozen 5
  simp only [List.getElem?_toArray, List.getElem?_cons_zero, List.getElem?_cons_succ] at hO_c0 hO_c1 hO_c2 hO_c3 hO_c4 hO_c5
  clear hb1
  have hO_lt1 := hO.lt
  go_wp2_with
    (go_at_call 37
     refine (HR.out _ hBa).mono ?_
     rintro e w2 ⟨A2, c2, rfl, hc2, hm2, hp2, hb2, hf2⟩
     have hB2 := hBa.trans (hb2.mono hBa.size)
     replace hS := hS.below hb2 (by first | omega | exact hS.lt | (simp; done) | (simp; omega))
     (try clear hS_c0); (try clear hS_f0)
     (try clear hS_c1); (try clear hS_f1)
     (try clear hS_c2); (try clear hS_f2)
     (try clear hS_c3); (try clear hS_f3)
     (try clear hS_c4); (try clear hS_f4)
     (try clear hS_c5); (try clear hS_f5)
     (try clear hS_lt)
     have hS_lt := hS.lt; (try simp only [World.size_alloc] at hS_lt)
     have hS_c0 := hS.cell 0; have hS_f0 := hS.frozen 0
     have hS_c1 := hS.cell 1; have hS_f1 := hS.frozen 1
     have hS_c2 := hS.cell 2; have hS_f2 := hS.frozen 2
     have hS_c3 := hS.cell 3; have hS_f3 := hS.frozen 3
     have hS_c4 := hS.cell 4; have hS_f4 := hS.frozen 4
     have hS_c5 := hS.cell 5; have hS_f5 := hS.frozen 5
     simp only [List.getElem?_toArray, List.getElem?_cons_zero, List.getElem?_cons_succ] at hS_c0 hS_c1 hS_c2 hS_c3 hS_c4 hS_c5
     replace hO := hO.below hb2 (by first | omega | exact hO.lt | (simp; done) | (simp; omega))
     (try clear hO_c0); (try clear hO_f0)
     (try clear hO_c1); (try clear hO_f1)
     (try clear hO_c2); (try clear hO_f2)
     (try clear hO_c3); (try clear hO_f3)
     (try clear hO_c4); (try clear hO_f4)
     (try clear hO_c5); (try clear hO_f5)
     (try clear hO_lt)
     have hO_lt := hO.lt; (try simp only [World.size_alloc] at hO_lt)
     have hO_c0 := hO.cell 0; have hO_f0 := hO.frozen 0
     have hO_c1 := hO.cell 1; have hO_f1 := hO.frozen 1
     have hO_c2 := hO.cell 2; have hO_f2 := hO.frozen 2
     have hO_c3 := hO.cell 3; have hO_f3 := hO.frozen 3
     have hO_c4 := hO.cell 4; have hO_f4 := hO.frozen 4
     have hO_c5 := hO.cell 5; have hO_f5 := hO.frozen 5
     simp only [List.getElem?_toArray, List.getElem?_cons_zero, List.getElem?_cons_succ] at hO_c0 hO_c1 hO_c2 hO_c3 hO_c4 hO_c5
     clear hb2)
  refine ⟨rfl, ?_⟩
  apply Exists.intro
  apply And.intro
  · simp [results, Tryz.results26, go_sem, hO_c0, hO_c1, hO_c2, hO_c3, hO_c4, hO_c5, hO_lt]; exact rfl
  · exact HE.out _ _ _ _ _ hc2 hm2 hp2 hB2 hf2 hO_lt1 (by repeat (first | with_reducible exact But.refl _ _ | with_reducible refine But.setCell ?_ (Or.inl (Or.inl rfl)) _ | with_reducible refine But.setCell ?_ (Or.inl (Or.inr rfl)) _ | with_reducible refine But.setCell ?_ (Or.inr (Nat.le_refl _)) _ | with_reducible refine But.alloc ?_ _ | with_reducible refine But.drewN ?_ _ | with_reducible refine But.drew ?_))

theorem new_ring (s : Sc) : (newS s).xs = s.xs ∧ (newS s).co = s.co := by
  unfold newS
  split <;> exact ⟨rfl, rfl⟩
theorem line_ne {l w0 : List UInt8} (h1 : (splitL 32 w0).length = 1) (h : (splitL 32 l).length ≠ 1) : (l == w0) = false := by
  rw [beq_eq_false_iff_ne]
  intro e
  rw [e] at h
  exact h h1
theorem tl_ne {t : ByteArray} {w0 : List UInt8} (h1 : (splitL 32 w0).length = 1) (h : (splitL 32 t.data.toList).length ≠ 1) : (t.toList == w0) = false := by
  rw [tl_eq rfl]; exact line_ne h1 h
theorem tl_no {t : ByteArray} {x w0 : List UInt8} (hx : t.data.toList = x) (h : x ≠ w0) : (t.toList == w0) = false := by
  rw [tl_eq hx, beq_eq_false_iff_ne]; exact h

set_option maxHeartbeats 2000000 in
theorem sline_new (s : Sc) (A : Option Addr) (c : Nat) (t : ByteArray) (w : World) (N0 : Nat) (h0 : Pks w N0 A s.xs.length s.xs) (hN0 : N0 ≤ w.heap.size) (hc : s.xs.length ≤ c) (hcm : c ≤ maxLen) (hok : scOk s) (ht : t.size ≤ 500) (hsp : splitL 32 t.data.toList = [wNew]) :
    Calls Tryz.prog 26 #[stV s A c, .string t] w (StRet N0 (newS s, wOk) w) := by
  have h := h0.more hN0
  have hl := scOk_len hok
  have HC := Lib.hid (fun w => scut_any t w ht)
  unfold CutRet at HC
  rw [hsp] at HC
  have hx := splitL_one hsp
  have e1 : (t.toList == [114, 101, 97, 100]) = false := tl_no hx (by decide)
  have e2 : (t.toList == [110, 101, 119]) = true := by rw [tl_eq hx]; rfl
  have hring := new_ring s
  have HV := Lib.hid (fun (w' : World) (hw : Below w.heap.size w w') => snew_any s A c w' ((h.below hw).more hw.size) hok)
  unfold NewRet rdV rgV at HV
  have HF := Lib.hid (stRet_of (s' := newS s) (o := wOk) hring.1 rfl hc hcm h0 hN0)
  rw [hring.2] at HF
  generalize StRet N0 (newS s, wOk) w = R at *
  generalize (newS s).nx = nx2 at *
  generalize (newS s).lo = lo2 at *
  generalize (newS s).wt = wt2 at *
  clear h h0 hok hsp hring
  unfold stV at *
  generalize s.xs.length = n at *
  generalize s.co = co at *
  generalize s.nx = nx at *
  generalize s.lo = lo at *
  generalize s.wt = wt at *
  have hS := (Bk.new w 51 #[.int .i64 4, .int .i64 co, .slice A n c, .int .i64 nx, .int .i64 lo, .bool wt]).alloc (.cells #[.int .i64 0, .int .i64 0, .slice none 0 0, .int .i64 0, .int .i64 0, .bool false] 51)
  have hO := bk_new1 w (.cells #[.int .i64 4, .int .i64 co, .slice A n c, .int .i64 nx, .int .i64 lo, .bool wt] 51) 51 #[.int .i64 0, .int .i64 0, .slice none 0 0, .int .i64 0, .int .i64 0, .bool false]
  have hBa : Below w.heap.size w ((w.alloc (.cells #[.int .i64 4, .int .i64 co, .slice A n c, .int .i64 nx, .int .i64 lo, .bool wt] 51)).alloc (.cells #[.int .i64 0, .int .i64 0, .slice none 0 0, .int .i64 0, .int .i64 0, .bool false] 51)) := (by repeat (first | exact Below.refl _ _ | assumption | refine Below.setCell ?_ (by first | omega | (simp; done) | (simp; omega)) _ | refine Below.alloc ?_ (by first | omega | (simp; done) | (simp; omega)) _ | refine Below.drew ?_ | refine Below.drewN' ?_ _ | refine Below.trans ?_ (Below.mono (by assumption) (by first | omega | (simp; done) | (simp; omega)))))
  go_enter Tryz.func26, Tryz.ntmps26
  go_wp2_with fail
  refine (HC.out _).mono ?_
  rintro e w1 ⟨v, rfl, hown, hb1⟩
  obtain ⟨Aw, cw, rfl, h1, h2, h3⟩ := own_shape hown
  clear hown
  obtain ⟨bw, ow, rfl, hbw, hcw⟩ := h3.2 (by simp)
  have cw0 := hcw 0 _ rfl
  simp only [Nat.add_zero] at cw0
  unfold sV at cw0
  clear hcw
  simp only [wNew] at cw0
  clear hx
  simp only [List.length_cons, List.length_nil, Nat.zero_add] at *
  replace hBa := hBa.trans (hb1.mono hBa.size)
  replace hS := hS.below hb1 (by first | omega | exact hS.lt | (simp; done) | (simp; omega))
  (try clear hS_c0); (try clear hS_f0)
  (try clear hS_c1); (try clear hS_f1)
  (try clear hS_c2); (try clear hS_f2)
  (try clear hS_c3); (try clear hS_f3)
  (try clear hS_c4); (try clear hS_f4)
  (try clear hS_c5); (try clear hS_f5)
  (try clear hS_lt)
  have hS_lt := hS.lt; (try simp only [World.size_alloc] at hS_lt)
  have hS_c0 := hS.cell 0; have hS_f0 := hS.frozen 0
  have hS_c1 := hS.cell 1; have hS_f1 := hS.frozen 1
  have hS_c2 := hS.cell 2; have hS_f2 := hS.frozen 2
  have hS_c3 := hS.cell 3; have hS_f3 := hS.frozen 3
  have hS_c4 := hS.cell 4; have hS_f4 := hS.frozen 4
  have hS_c5 := hS.cell 5; have hS_f5 := hS.frozen 5
  simp only [List.getElem?_toArray, List.getElem?_cons_zero, List.getElem?_cons_succ] at hS_c0 hS_c1 hS_c2 hS_c3 hS_c4 hS_c5
  replace hO := hO.below hb1 (by first | omega | exact hO.lt | (simp; done) | (simp; omega))
  (try clear hO_c0); (try clear hO_f0)
  (try clear hO_c1); (try clear hO_f1)
  (try clear hO_c2); (try clear hO_f2)
  (try clear hO_c3); (try clear hO_f3)
  (try clear hO_c4); (try clear hO_f4)
  (try clear hO_c5); (try clear hO_f5)
  (try clear hO_lt)
  have hO_lt := hO.lt; (try simp only [World.size_alloc] at hO_lt)
  have hO_c0 := hO.cell 0; have hO_f0 := hO.frozen 0
  have hO_c1 := hO.cell 1; have hO_f1 := hO.frozen 1
  have hO_c2 := hO.cell 2; have hO_f2 := hO.frozen 2
  have hO_c3 := hO.cell 3; have hO_f3 := hO.frozen 3
  have hO_c4 := hO.cell 4; have hO_f4 := hO.frozen 4
  have hO_c5 := hO.cell 5; have hO_f5 := hO.frozen 5
  simp only [List.getElem?_toArray, List.getElem?_cons_zero, List.getElem?_cons_succ] at hO_c0 hO_c1 hO_c2 hO_c3 hO_c4 hO_c5
  clear hb1
  have hO_lt1 := hO.lt
  go_wp2_with (first
    | (go_at_call 38
       refine (HV.out _ hBa).mono ?_
       rintro e w2 ⟨rfl, hb1⟩
       replace hBa := hBa.trans (hb1.mono hBa.size)
       replace hS := hS.below hb1 (by first | omega | exact hS.lt | (simp; done) | (simp; omega))
       (try clear hS_c0); (try clear hS_f0)
       (try clear hS_c1); (try clear hS_f1)
       (try clear hS_c2); (try clear hS_f2)
       (try clear hS_c3); (try clear hS_f3)
       (try clear hS_c4); (try clear hS_f4)
       (try clear hS_c5); (try clear hS_f5)
       (try clear hS_lt)
       have hS_lt := hS.lt; (try simp only [World.size_alloc] at hS_lt)
       have hS_c0 := hS.cell 0; have hS_f0 := hS.frozen 0
       have hS_c1 := hS.cell 1; have hS_f1 := hS.frozen 1
       have hS_c2 := hS.cell 2; have hS_f2 := hS.frozen 2
       have hS_c3 := hS.cell 3; have hS_f3 := hS.frozen 3
       have hS_c4 := hS.cell 4; have hS_f4 := hS.frozen 4
       have hS_c5 := hS.cell 5; have hS_f5 := hS.frozen 5
       simp only [List.getElem?_toArray, List.getElem?_cons_zero, List.getElem?_cons_succ] at hS_c0 hS_c1 hS_c2 hS_c3 hS_c4 hS_c5
       replace hO := hO.below hb1 (by first | omega | exact hO.lt | (simp; done) | (simp; omega))
       (try clear hO_c0); (try clear hO_f0)
       (try clear hO_c1); (try clear hO_f1)
       (try clear hO_c2); (try clear hO_f2)
       (try clear hO_c3); (try clear hO_f3)
       (try clear hO_c4); (try clear hO_f4)
       (try clear hO_c5); (try clear hO_f5)
       (try clear hO_lt)
       have hO_lt := hO.lt; (try simp only [World.size_alloc] at hO_lt)
       have hO_c0 := hO.cell 0; have hO_f0 := hO.frozen 0
       have hO_c1 := hO.cell 1; have hO_f1 := hO.frozen 1
       have hO_c2 := hO.cell 2; have hO_f2 := hO.frozen 2
       have hO_c3 := hO.cell 3; have hO_f3 := hO.frozen 3
       have hO_c4 := hO.cell 4; have hO_f4 := hO.frozen 4
       have hO_c5 := hO.cell 5; have hO_f5 := hO.frozen 5
       simp only [List.getElem?_toArray, List.getElem?_cons_zero, List.getElem?_cons_succ] at hO_c0 hO_c1 hO_c2 hO_c3 hO_c4 hO_c5
       clear hb1))
  have hOO_lt : w.heap.size + 1 < w2.heap.size + 1 := by have := hO.lt; omega
  refine ⟨rfl, ?_⟩
  apply Exists.intro
  apply And.intro
  · simp [results, Tryz.results26, go_sem, hO_c0, hO_c1, hO_c2, hO_c3, hO_c4, hO_c5, hO_lt, hOO_lt]; exact rfl
  · exact HF.out _ (by repeat (first | with_reducible exact hBa | with_reducible exact hBa.size | with_reducible exact le1 w | with_reducible exact le2 w | with_reducible exact le3 w | with_reducible refine Below.setCell ?_ ?_ _ | with_reducible refine Below.alloc ?_ ?_ _ | with_reducible refine Below.drewN' ?_ _ | with_reducible refine Below.drew ?_ | with_reducible exact Nat.le_refl _ | with_reducible refine le_set ?_ | with_reducible refine le_all ?_))

set_option maxHeartbeats 2000000 in
theorem sline_what1 (s : Sc) (A : Option Addr) (c : Nat) (t : ByteArray) (w : World) (N0 : Nat) (h0 : Pks w N0 A s.xs.length s.xs) (hN0 : N0 ≤ w.heap.size) (hc : s.xs.length ≤ c) (hcm : c ≤ maxLen) (hok : scOk s) (ht : t.size ≤ 500) (x : List UInt8) (hsp : splitL 32 t.data.toList = [x]) (n1 : x ≠ wRead) (n2 : x ≠ wNew) (n3 : x ≠ wRing) :
    Calls Tryz.prog 26 #[stV s A c, .string t] w (StRet N0 (s, wWhat) w) := by
  have h := h0.more hN0
  have hl := scOk_len hok
  have HC := Lib.hid (fun w => scut_any t w ht)
  unfold CutRet at HC
  rw [hsp] at HC
  have hx := splitL_one hsp
  have e1 : (t.toList == [114, 101, 97, 100]) = false := tl_no hx n1
  have e2 : (t.toList == [110, 101, 119]) = false := tl_no hx n2
  have e3 : (t.toList == [114, 105, 110, 103]) = false := tl_no hx n3
  have HF := Lib.hid (stRet_of (s' := s) (o := wWhat) rfl rfl hc hcm h0 hN0)
  generalize StRet N0 (s, wWhat) w = R at *
  clear h h0 hok
  unfold stV at *
  generalize s.xs.length = n at *
  generalize s.co = co at *
  generalize s.nx = nx at *
  generalize s.lo = lo at *
  generalize s.wt = wt at *
  have hS := (Bk.new w 51 #[.int .i64 4, .int .i64 co, .slice A n c, .int .i64 nx, .int .i64 lo, .bool wt]).alloc (.cells #[.int .i64 0, .int .i64 0, .slice none 0 0, .int .i64 0, .int .i64 0, .bool false] 51)
  have hO := bk_new1 w (.cells #[.int .i64 4, .int .i64 co, .slice A n c, .int .i64 nx, .int .i64 lo, .bool wt] 51) 51 #[.int .i64 0, .int .i64 0, .slice none 0 0, .int .i64 0, .int .i64 0, .bool false]
  have hBa : Below w.heap.size w ((w.alloc (.cells #[.int .i64 4, .int .i64 co, .slice A n c, .int .i64 nx, .int .i64 lo, .bool wt] 51)).alloc (.cells #[.int .i64 0, .int .i64 0, .slice none 0 0, .int .i64 0, .int .i64 0, .bool false] 51)) := (by repeat (first | exact Below.refl _ _ | assumption | refine Below.setCell ?_ (by first | omega | (simp; done) | (simp; omega)) _ | refine Below.alloc ?_ (by first | omega | (simp; done) | (simp; omega)) _ | refine Below.drew ?_ | refine Below.drewN' ?_ _ | refine Below.trans ?_ (Below.mono (by assumption) (by first | omega | (simp; done) | (simp; omega)))))
  go_enter Tryz.func26, Tryz.ntmps26
  go_wp2_with fail
  refine (HC.out _).mono ?_
  rintro e w1 ⟨v, rfl, hown, hb1⟩
  obtain ⟨Aw, cw, rfl, h1, h2, h3⟩ := own_shape hown
  clear hown
  obtain ⟨bw, ow, rfl, hbw, hcw⟩ := h3.2 (by simp)
  have cw0 := hcw 0 _ rfl
  simp only [Nat.add_zero] at cw0
  unfold sV at cw0
  clear hcw
  clear hx n1 n2 n3 hsp
  simp only [List.length_cons, List.length_nil, Nat.zero_add] at *
  replace hBa := hBa.trans (hb1.mono hBa.size)
  replace hS := hS.below hb1 (by first | omega | exact hS.lt | (simp; done) | (simp; omega))
  (try clear hS_c0); (try clear hS_f0)
  (try clear hS_c1); (try clear hS_f1)
  (try clear hS_c2); (try clear hS_f2)
  (try clear hS_c3); (try clear hS_f3)
  (try clear hS_c4); (try clear hS_f4)
  (try clear hS_c5); (try clear hS_f5)
  (try clear hS_lt)
  have hS_lt := hS.lt; (try simp only [World.size_alloc] at hS_lt)
  have hS_c0 := hS.cell 0; have hS_f0 := hS.frozen 0
  have hS_c1 := hS.cell 1; have hS_f1 := hS.frozen 1
  have hS_c2 := hS.cell 2; have hS_f2 := hS.frozen 2
  have hS_c3 := hS.cell 3; have hS_f3 := hS.frozen 3
  have hS_c4 := hS.cell 4; have hS_f4 := hS.frozen 4
  have hS_c5 := hS.cell 5; have hS_f5 := hS.frozen 5
  simp only [List.getElem?_toArray, List.getElem?_cons_zero, List.getElem?_cons_succ] at hS_c0 hS_c1 hS_c2 hS_c3 hS_c4 hS_c5
  replace hO := hO.below hb1 (by first | omega | exact hO.lt | (simp; done) | (simp; omega))
  (try clear hO_c0); (try clear hO_f0)
  (try clear hO_c1); (try clear hO_f1)
  (try clear hO_c2); (try clear hO_f2)
  (try clear hO_c3); (try clear hO_f3)
  (try clear hO_c4); (try clear hO_f4)
  (try clear hO_c5); (try clear hO_f5)
  (try clear hO_lt)
  have hO_lt := hO.lt; (try simp only [World.size_alloc] at hO_lt)
  have hO_c0 := hO.cell 0; have hO_f0 := hO.frozen 0
  have hO_c1 := hO.cell 1; have hO_f1 := hO.frozen 1
  have hO_c2 := hO.cell 2; have hO_f2 := hO.frozen 2
  have hO_c3 := hO.cell 3; have hO_f3 := hO.frozen 3
  have hO_c4 := hO.cell 4; have hO_f4 := hO.frozen 4
  have hO_c5 := hO.cell 5; have hO_f5 := hO.frozen 5
  simp only [List.getElem?_toArray, List.getElem?_cons_zero, List.getElem?_cons_succ] at hO_c0 hO_c1 hO_c2 hO_c3 hO_c4 hO_c5
  clear hb1
  have hO_lt1 := hO.lt
  go_wp2_with fail
  all_goals
    refine ⟨rfl, ?_⟩
    apply Exists.intro
    apply And.intro
    · simp [results, Tryz.results26, go_sem, hO_c0, hO_c1, hO_c2, hO_c3, hO_c4, hO_c5, hO_lt]; exact rfl
    · exact HF.out _ (by repeat (first | with_reducible exact hBa | with_reducible exact hBa.size | with_reducible exact le1 w | with_reducible exact le2 w | with_reducible exact le3 w | with_reducible refine Below.setCell ?_ ?_ _ | with_reducible refine Below.alloc ?_ ?_ _ | with_reducible refine Below.drewN' ?_ _ | with_reducible refine Below.drew ?_ | with_reducible exact Nat.le_refl _ | with_reducible refine le_set ?_ | with_reducible refine le_all ?_))

set_option maxHeartbeats 2000000 in
theorem sline_key (s : Sc) (A : Option Addr) (c : Nat) (t : ByteArray) (w : World) (N0 : Nat) (h0 : Pks w N0 A s.xs.length s.xs) (hN0 : N0 ≤ w.heap.size) (hc : s.xs.length ≤ c) (hcm : c ≤ maxLen) (hok : scOk s) (ht : t.size ≤ 500) (a b : List UInt8) (hsp : splitL 32 t.data.toList = [wKey, a, b]) (ha : a.length ≤ 500) (hb : b.length ≤ 500) :
    Calls Tryz.prog 26 #[stV s A c, .string t] w (StRet N0 (putW s true a b) w) := by
  have h := h0.more hN0
  have hl := scOk_len hok
  have HC := Lib.hid (fun w => scut_any t w ht)
  unfold CutRet at HC
  rw [hsp] at HC
  have HR := Lib.hid (fun (w' : World) (hw : Below w.heap.size w w') => (fun (Aw : Option Addr) (cw : Nat) (hwd : Sl w' w'.heap.size 1 Aw 3 [sV wKey, sV a, sV b]) => sput_any s true a b A c Aw cw w' N0 (h0.below (hw.mono hN0)) (by have := hw.size; omega) hc hcm hok hwd ha hb))
  unfold StRet at HR
  generalize putW s true a b = r at *
  obtain ⟨⟨co2, xs2, nx2, lo2, wt2⟩, o2⟩ := r
  unfold stV sV at HR
  have HE := Lib.hid (fun (w1 w2 w3 : World) (A2 : Option Addr) (c2 : Nat) (a1 : xs2.length ≤ c2) (a2 : c2 ≤ maxLen) (a3 : Pks w2 w2.heap.size A2 xs2.length xs2) (a4 : Below w.heap.size w w2) (a5 : OldNew N0 w1.heap.size xs2.length A2) (a6 : w.heap.size + 1 < w1.heap.size) (a7 : But (fun k => k = w.heap.size ∨ k = w.heap.size + 1) w2 w3) => (show StRet N0 (⟨co2, xs2, nx2, lo2, wt2⟩, o2) w (.returned (.tuple #[.agg #[.int .i64 4, .int .i64 co2, .slice A2 xs2.length c2, .int .i64 nx2, .int .i64 lo2, .bool wt2], .string (ByteArray.mk (o2 ++ [10] : List UInt8).toArray)])) w3 from stRet_end (r := (⟨co2, xs2, nx2, lo2, wt2⟩, o2)) a1 a2 a3 a4 a5 hN0 a6 w3 a7))
  generalize StRet N0 (⟨co2, xs2, nx2, lo2, wt2⟩, o2) w = R at *
  simp only at HR
  generalize o2 ++ [10] = o3 at *
  generalize xs2.length = n2 at *
  clear h h0 hok hsp
  unfold stV at *
  generalize s.xs.length = n at *
  generalize s.co = co at *
  generalize s.nx = nx at *
  generalize s.lo = lo at *
  generalize s.wt = wt at *
  have hS := (Bk.new w 51 #[.int .i64 4, .int .i64 co, .slice A n c, .int .i64 nx, .int .i64 lo, .bool wt]).alloc (.cells #[.int .i64 0, .int .i64 0, .slice none 0 0, .int .i64 0, .int .i64 0, .bool false] 51)
  have hO := bk_new1 w (.cells #[.int .i64 4, .int .i64 co, .slice A n c, .int .i64 nx, .int .i64 lo, .bool wt] 51) 51 #[.int .i64 0, .int .i64 0, .slice none 0 0, .int .i64 0, .int .i64 0, .bool false]
  have hBa : Below w.heap.size w ((w.alloc (.cells #[.int .i64 4, .int .i64 co, .slice A n c, .int .i64 nx, .int .i64 lo, .bool wt] 51)).alloc (.cells #[.int .i64 0, .int .i64 0, .slice none 0 0, .int .i64 0, .int .i64 0, .bool false] 51)) := (by repeat (first | exact Below.refl _ _ | assumption | refine Below.setCell ?_ (by first | omega | (simp; done) | (simp; omega)) _ | refine Below.alloc ?_ (by first | omega | (simp; done) | (simp; omega)) _ | refine Below.drew ?_ | refine Below.drewN' ?_ _ | refine Below.trans ?_ (Below.mono (by assumption) (by first | omega | (simp; done) | (simp; omega)))))
  go_enter Tryz.func26, Tryz.ntmps26
  go_wp2_with fail
  refine (HC.out _).mono ?_
  rintro e w1 ⟨v, rfl, hown, hb1⟩
  obtain ⟨Aw, cw, rfl, h1, h2, h3⟩ := own_shape hown
  clear hown
  have HW := Lib.hid (show Sl w1 w1.heap.size 1 Aw 3 [sV wKey, sV a, sV b] from h3)
  obtain ⟨bw, ow, rfl, hbw, hcw⟩ := h3.2 (by simp)
  have cw0 := hcw 0 _ rfl
  simp only [Nat.add_zero] at cw0
  unfold sV at cw0
  clear hcw
  simp only [wKey] at cw0
  simp only [List.length_cons, List.length_nil, Nat.zero_add] at *
  replace hBa := hBa.trans (hb1.mono hBa.size)
  replace hS := hS.below hb1 (by first | omega | exact hS.lt | (simp; done) | (simp; omega))
  (try clear hS_c0); (try clear hS_f0)
  (try clear hS_c1); (try clear hS_f1)
  (try clear hS_c2); (try clear hS_f2)
  (try clear hS_c3); (try clear hS_f3)
  (try clear hS_c4); (try clear hS_f4)
  (try clear hS_c5); (try clear hS_f5)
  (try clear hS_lt)
  have hS_lt := hS.lt; (try simp only [World.size_alloc] at hS_lt)
  have hS_c0 := hS.cell 0; have hS_f0 := hS.frozen 0
  have hS_c1 := hS.cell 1; have hS_f1 := hS.frozen 1
  have hS_c2 := hS.cell 2; have hS_f2 := hS.frozen 2
  have hS_c3 := hS.cell 3; have hS_f3 := hS.frozen 3
  have hS_c4 := hS.cell 4; have hS_f4 := hS.frozen 4
  have hS_c5 := hS.cell 5; have hS_f5 := hS.frozen 5
  simp only [List.getElem?_toArray, List.getElem?_cons_zero, List.getElem?_cons_succ] at hS_c0 hS_c1 hS_c2 hS_c3 hS_c4 hS_c5
  replace hO := hO.below hb1 (by first | omega | exact hO.lt | (simp; done) | (simp; omega))
  (try clear hO_c0); (try clear hO_f0)
  (try clear hO_c1); (try clear hO_f1)
  (try clear hO_c2); (try clear hO_f2)
  (try clear hO_c3); (try clear hO_f3)
  (try clear hO_c4); (try clear hO_f4)
  (try clear hO_c5); (try clear hO_f5)
  (try clear hO_lt)
  have hO_lt := hO.lt; (try simp only [World.size_alloc] at hO_lt)
  have hO_c0 := hO.cell 0; have hO_f0 := hO.frozen 0
  have hO_c1 := hO.cell 1; have hO_f1 := hO.frozen 1
  have hO_c2 := hO.cell 2; have hO_f2 := hO.frozen 2
  have hO_c3 := hO.cell 3; have hO_f3 := hO.frozen 3
  have hO_c4 := hO.cell 4; have hO_f4 := hO.frozen 4
  have hO_c5 := hO.cell 5; have hO_f5 := hO.frozen 5
  simp only [List.getElem?_toArray, List.getElem?_cons_zero, List.getElem?_cons_succ] at hO_c0 hO_c1 hO_c2 hO_c3 hO_c4 hO_c5
  clear hb1
  have hO_lt1 := hO.lt
  go_wp2_with
    (go_at_call 36
     refine (HR.out _ hBa _ _ HW.out).mono ?_
     rintro e w2 ⟨A2, c2, rfl, hc2, hm2, hp2, hb2, hf2⟩
     have hB2 := hBa.trans (hb2.mono hBa.size)
     replace hS := hS.below hb2 (by first | omega | exact hS.lt | (simp; done) | (simp; omega))
     (try clear hS_c0); (try clear hS_f0)
     (try clear hS_c1); (try clear hS_f1)
     (try clear hS_c2); (try clear hS_f2)
     (try clear hS_c3); (try clear hS_f3)
     (try clear hS_c4); (try clear hS_f4)
     (try clear hS_c5); (try clear hS_f5)
     (try clear hS_lt)
     have hS_lt := hS.lt; (try simp only [World.size_alloc] at hS_lt)
     have hS_c0 := hS.cell 0; have hS_f0 := hS.frozen 0
     have hS_c1 := hS.cell 1; have hS_f1 := hS.frozen 1
     have hS_c2 := hS.cell 2; have hS_f2 := hS.frozen 2
     have hS_c3 := hS.cell 3; have hS_f3 := hS.frozen 3
     have hS_c4 := hS.cell 4; have hS_f4 := hS.frozen 4
     have hS_c5 := hS.cell 5; have hS_f5 := hS.frozen 5
     simp only [List.getElem?_toArray, List.getElem?_cons_zero, List.getElem?_cons_succ] at hS_c0 hS_c1 hS_c2 hS_c3 hS_c4 hS_c5
     replace hO := hO.below hb2 (by first | omega | exact hO.lt | (simp; done) | (simp; omega))
     (try clear hO_c0); (try clear hO_f0)
     (try clear hO_c1); (try clear hO_f1)
     (try clear hO_c2); (try clear hO_f2)
     (try clear hO_c3); (try clear hO_f3)
     (try clear hO_c4); (try clear hO_f4)
     (try clear hO_c5); (try clear hO_f5)
     (try clear hO_lt)
     have hO_lt := hO.lt; (try simp only [World.size_alloc] at hO_lt)
     have hO_c0 := hO.cell 0; have hO_f0 := hO.frozen 0
     have hO_c1 := hO.cell 1; have hO_f1 := hO.frozen 1
     have hO_c2 := hO.cell 2; have hO_f2 := hO.frozen 2
     have hO_c3 := hO.cell 3; have hO_f3 := hO.frozen 3
     have hO_c4 := hO.cell 4; have hO_f4 := hO.frozen 4
     have hO_c5 := hO.cell 5; have hO_f5 := hO.frozen 5
     simp only [List.getElem?_toArray, List.getElem?_cons_zero, List.getElem?_cons_succ] at hO_c0 hO_c1 hO_c2 hO_c3 hO_c4 hO_c5
     clear hb2)
  refine ⟨rfl, ?_⟩
  apply Exists.intro
  apply And.intro
  · simp [results, Tryz.results26, go_sem, hO_c0, hO_c1, hO_c2, hO_c3, hO_c4, hO_c5, hO_lt]; exact rfl
  · exact HE.out _ _ _ _ _ hc2 hm2 hp2 hB2 hf2 hO_lt1 (by repeat (first | with_reducible exact But.refl _ _ | with_reducible refine But.setCell ?_ (Or.inl (Or.inl rfl)) _ | with_reducible refine But.setCell ?_ (Or.inl (Or.inr rfl)) _ | with_reducible refine But.setCell ?_ (Or.inr (Nat.le_refl _)) _ | with_reducible refine But.alloc ?_ _ | with_reducible refine But.drewN ?_ _ | with_reducible refine But.drew ?_))

set_option maxHeartbeats 2000000 in
theorem sline_put (s : Sc) (A : Option Addr) (c : Nat) (t : ByteArray) (w : World) (N0 : Nat) (h0 : Pks w N0 A s.xs.length s.xs) (hN0 : N0 ≤ w.heap.size) (hc : s.xs.length ≤ c) (hcm : c ≤ maxLen) (hok : scOk s) (ht : t.size ≤ 500) (a b : List UInt8) (hsp : splitL 32 t.data.toList = [wPut, a, b]) (ha : a.length ≤ 500) (hb : b.length ≤ 500) :
    Calls Tryz.prog 26 #[stV s A c, .string t] w (StRet N0 (putW s false a b) w) := by
  have h := h0.more hN0
  have hl := scOk_len hok
  have HC := Lib.hid (fun w => scut_any t w ht)
  unfold CutRet at HC
  rw [hsp] at HC
  have HR := Lib.hid (fun (w' : World) (hw : Below w.heap.size w w') => (fun (Aw : Option Addr) (cw : Nat) (hwd : Sl w' w'.heap.size 1 Aw 3 [sV wPut, sV a, sV b]) => sput_any s false a b A c Aw cw w' N0 (h0.below (hw.mono hN0)) (by have := hw.size; omega) hc hcm hok hwd ha hb))
  unfold StRet at HR
  generalize putW s false a b = r at *
  obtain ⟨⟨co2, xs2, nx2, lo2, wt2⟩, o2⟩ := r
  unfold stV sV at HR
  have HE := Lib.hid (fun (w1 w2 w3 : World) (A2 : Option Addr) (c2 : Nat) (a1 : xs2.length ≤ c2) (a2 : c2 ≤ maxLen) (a3 : Pks w2 w2.heap.size A2 xs2.length xs2) (a4 : Below w.heap.size w w2) (a5 : OldNew N0 w1.heap.size xs2.length A2) (a6 : w.heap.size + 1 < w1.heap.size) (a7 : But (fun k => k = w.heap.size ∨ k = w.heap.size + 1) w2 w3) => (show StRet N0 (⟨co2, xs2, nx2, lo2, wt2⟩, o2) w (.returned (.tuple #[.agg #[.int .i64 4, .int .i64 co2, .slice A2 xs2.length c2, .int .i64 nx2, .int .i64 lo2, .bool wt2], .string (ByteArray.mk (o2 ++ [10] : List UInt8).toArray)])) w3 from stRet_end (r := (⟨co2, xs2, nx2, lo2, wt2⟩, o2)) a1 a2 a3 a4 a5 hN0 a6 w3 a7))
  generalize StRet N0 (⟨co2, xs2, nx2, lo2, wt2⟩, o2) w = R at *
  simp only at HR
  generalize o2 ++ [10] = o3 at *
  generalize xs2.length = n2 at *
  clear h h0 hok hsp
  unfold stV at *
  generalize s.xs.length = n at *
  generalize s.co = co at *
  generalize s.nx = nx at *
  generalize s.lo = lo at *
  generalize s.wt = wt at *
  have hS := (Bk.new w 51 #[.int .i64 4, .int .i64 co, .slice A n c, .int .i64 nx, .int .i64 lo, .bool wt]).alloc (.cells #[.int .i64 0, .int .i64 0, .slice none 0 0, .int .i64 0, .int .i64 0, .bool false] 51)
  have hO := bk_new1 w (.cells #[.int .i64 4, .int .i64 co, .slice A n c, .int .i64 nx, .int .i64 lo, .bool wt] 51) 51 #[.int .i64 0, .int .i64 0, .slice none 0 0, .int .i64 0, .int .i64 0, .bool false]
  have hBa : Below w.heap.size w ((w.alloc (.cells #[.int .i64 4, .int .i64 co, .slice A n c, .int .i64 nx, .int .i64 lo, .bool wt] 51)).alloc (.cells #[.int .i64 0, .int .i64 0, .slice none 0 0, .int .i64 0, .int .i64 0, .bool false] 51)) := (by repeat (first | exact Below.refl _ _ | assumption | refine Below.setCell ?_ (by first | omega | (simp; done) | (simp; omega)) _ | refine Below.alloc ?_ (by first | omega | (simp; done) | (simp; omega)) _ | refine Below.drew ?_ | refine Below.drewN' ?_ _ | refine Below.trans ?_ (Below.mono (by assumption) (by first | omega | (simp; done) | (simp; omega)))))
  go_enter Tryz.func26, Tryz.ntmps26
  go_wp2_with fail
  refine (HC.out _).mono ?_
  rintro e w1 ⟨v, rfl, hown, hb1⟩
  obtain ⟨Aw, cw, rfl, h1, h2, h3⟩ := own_shape hown
  clear hown
  have HW := Lib.hid (show Sl w1 w1.heap.size 1 Aw 3 [sV wPut, sV a, sV b] from h3)
  obtain ⟨bw, ow, rfl, hbw, hcw⟩ := h3.2 (by simp)
  have cw0 := hcw 0 _ rfl
  simp only [Nat.add_zero] at cw0
  unfold sV at cw0
  clear hcw
  simp only [wPut] at cw0
  simp only [List.length_cons, List.length_nil, Nat.zero_add] at *
  replace hBa := hBa.trans (hb1.mono hBa.size)
  replace hS := hS.below hb1 (by first | omega | exact hS.lt | (simp; done) | (simp; omega))
  (try clear hS_c0); (try clear hS_f0)
  (try clear hS_c1); (try clear hS_f1)
  (try clear hS_c2); (try clear hS_f2)
  (try clear hS_c3); (try clear hS_f3)
  (try clear hS_c4); (try clear hS_f4)
  (try clear hS_c5); (try clear hS_f5)
  (try clear hS_lt)
  have hS_lt := hS.lt; (try simp only [World.size_alloc] at hS_lt)
  have hS_c0 := hS.cell 0; have hS_f0 := hS.frozen 0
  have hS_c1 := hS.cell 1; have hS_f1 := hS.frozen 1
  have hS_c2 := hS.cell 2; have hS_f2 := hS.frozen 2
  have hS_c3 := hS.cell 3; have hS_f3 := hS.frozen 3
  have hS_c4 := hS.cell 4; have hS_f4 := hS.frozen 4
  have hS_c5 := hS.cell 5; have hS_f5 := hS.frozen 5
  simp only [List.getElem?_toArray, List.getElem?_cons_zero, List.getElem?_cons_succ] at hS_c0 hS_c1 hS_c2 hS_c3 hS_c4 hS_c5
  replace hO := hO.below hb1 (by first | omega | exact hO.lt | (simp; done) | (simp; omega))
  (try clear hO_c0); (try clear hO_f0)
  (try clear hO_c1); (try clear hO_f1)
  (try clear hO_c2); (try clear hO_f2)
  (try clear hO_c3); (try clear hO_f3)
  (try clear hO_c4); (try clear hO_f4)
  (try clear hO_c5); (try clear hO_f5)
  (try clear hO_lt)
  have hO_lt := hO.lt; (try simp only [World.size_alloc] at hO_lt)
  have hO_c0 := hO.cell 0; have hO_f0 := hO.frozen 0
  have hO_c1 := hO.cell 1; have hO_f1 := hO.frozen 1
  have hO_c2 := hO.cell 2; have hO_f2 := hO.frozen 2
  have hO_c3 := hO.cell 3; have hO_f3 := hO.frozen 3
  have hO_c4 := hO.cell 4; have hO_f4 := hO.frozen 4
  have hO_c5 := hO.cell 5; have hO_f5 := hO.frozen 5
  simp only [List.getElem?_toArray, List.getElem?_cons_zero, List.getElem?_cons_succ] at hO_c0 hO_c1 hO_c2 hO_c3 hO_c4 hO_c5
  clear hb1
  have hO_lt1 := hO.lt
  go_wp2_with
    (go_at_call 36
     refine (HR.out _ hBa _ _ HW.out).mono ?_
     rintro e w2 ⟨A2, c2, rfl, hc2, hm2, hp2, hb2, hf2⟩
     have hB2 := hBa.trans (hb2.mono hBa.size)
     replace hS := hS.below hb2 (by first | omega | exact hS.lt | (simp; done) | (simp; omega))
     (try clear hS_c0); (try clear hS_f0)
     (try clear hS_c1); (try clear hS_f1)
     (try clear hS_c2); (try clear hS_f2)
     (try clear hS_c3); (try clear hS_f3)
     (try clear hS_c4); (try clear hS_f4)
     (try clear hS_c5); (try clear hS_f5)
     (try clear hS_lt)
     have hS_lt := hS.lt; (try simp only [World.size_alloc] at hS_lt)
     have hS_c0 := hS.cell 0; have hS_f0 := hS.frozen 0
     have hS_c1 := hS.cell 1; have hS_f1 := hS.frozen 1
     have hS_c2 := hS.cell 2; have hS_f2 := hS.frozen 2
     have hS_c3 := hS.cell 3; have hS_f3 := hS.frozen 3
     have hS_c4 := hS.cell 4; have hS_f4 := hS.frozen 4
     have hS_c5 := hS.cell 5; have hS_f5 := hS.frozen 5
     simp only [List.getElem?_toArray, List.getElem?_cons_zero, List.getElem?_cons_succ] at hS_c0 hS_c1 hS_c2 hS_c3 hS_c4 hS_c5
     replace hO := hO.below hb2 (by first | omega | exact hO.lt | (simp; done) | (simp; omega))
     (try clear hO_c0); (try clear hO_f0)
     (try clear hO_c1); (try clear hO_f1)
     (try clear hO_c2); (try clear hO_f2)
     (try clear hO_c3); (try clear hO_f3)
     (try clear hO_c4); (try clear hO_f4)
     (try clear hO_c5); (try clear hO_f5)
     (try clear hO_lt)
     have hO_lt := hO.lt; (try simp only [World.size_alloc] at hO_lt)
     have hO_c0 := hO.cell 0; have hO_f0 := hO.frozen 0
     have hO_c1 := hO.cell 1; have hO_f1 := hO.frozen 1
     have hO_c2 := hO.cell 2; have hO_f2 := hO.frozen 2
     have hO_c3 := hO.cell 3; have hO_f3 := hO.frozen 3
     have hO_c4 := hO.cell 4; have hO_f4 := hO.frozen 4
     have hO_c5 := hO.cell 5; have hO_f5 := hO.frozen 5
     simp only [List.getElem?_toArray, List.getElem?_cons_zero, List.getElem?_cons_succ] at hO_c0 hO_c1 hO_c2 hO_c3 hO_c4 hO_c5
     clear hb2)
  refine ⟨rfl, ?_⟩
  apply Exists.intro
  apply And.intro
  · simp [results, Tryz.results26, go_sem, hO_c0, hO_c1, hO_c2, hO_c3, hO_c4, hO_c5, hO_lt]; exact rfl
  · exact HE.out _ _ _ _ _ hc2 hm2 hp2 hB2 hf2 hO_lt1 (by repeat (first | with_reducible exact But.refl _ _ | with_reducible refine But.setCell ?_ (Or.inl (Or.inl rfl)) _ | with_reducible refine But.setCell ?_ (Or.inl (Or.inr rfl)) _ | with_reducible refine But.setCell ?_ (Or.inr (Nat.le_refl _)) _ | with_reducible refine But.alloc ?_ _ | with_reducible refine But.drewN ?_ _ | with_reducible refine But.drew ?_))

end Go.Proofs.YthbkmnladaneaaaGreatDoor
