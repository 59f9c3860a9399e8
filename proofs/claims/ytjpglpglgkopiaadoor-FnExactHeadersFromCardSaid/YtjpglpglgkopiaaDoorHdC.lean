/-
  HeaderBytes and HeadersBytes, of the program and of the reference.
  Conditions: the slice's memory.
-/
import Derived.Test.YtjpglpglgkopiaaDoorHdB
namespace Go.Proofs.YtjpglpglgkopiaaDoor
open Go.RowKit
set_option linter.unusedVariables false
set_option linter.unusedSimpArgs false

/-- A block known whole is a row of the call's own. -/
theorem own_bk {w : World} {base g n m size : Nat} {T : TypeId} {xs r : List Value} (h : Bk w g T (xs ++ r).toArray) (hb : base ≤ g) (hn : xs.length = n * size) (hm : (xs ++ r).length = m * size) (hnm : n ≤ m) (hml : m ≤ maxLen) (h1 : ∀ u ∈ xs, u.oneCell' = true) :
    w.ownsRow base T size (.slice (some ⟨g, 0, none⟩) n m) n xs := by
  refine ⟨hn, .inr ⟨g, m, (xs ++ r).toArray, rfl, hb, h, hnm, hml, by simpa using hm, ?_⟩⟩
  rw [← hn]
  simp

theorem bk_new2 (w : World) (o : Obj) (T : TypeId) (cs : Array Value) : Bk ((w.alloc o).alloc (.cells cs T)) (w.heap.size + 1) T cs := by
  have := Bk.new (w.alloc o) T cs
  simpa using this
/-- What HeaderBytes answers. -/
structure HbYes (x : Pk) (w : World) (e : Ending) (w' : World) : Prop where
  out : ∃ A c, e = .returned (.tuple #[.slice A 8 c, .bool true]) ∧ w'.ownsRow w.heap.size 3 1 (.slice A 8 c) 8 ((hB x).map (Value.int .i64))
  below : Below w.heap.size w w'
structure HbNo (w : World) (e : Ending) (w' : World) : Prop where
  out : ∃ A c, e = .returned (.tuple #[.slice A 0 c, .bool false])
  below : Below w.heap.size w w'

set_option maxHeartbeats 2000000 in
set_option maxRecDepth 100000 in
theorem l33_any (x : Pk) (hx : pkOk x) (w : World) : Calls Tryd.prog 44 #[.agg #[.int .i64 x.wi, .int .i64 x.ti, .int .i64 x.la, .int .i64 x.si, .bool x.ky, .bool x.en]] w fun e w' => ∃ A c, e = .returned (.slice A 8 c) ∧ w'.ownsRow w.heap.size 3 1 (.slice A 8 c) 8 ((hB x).map (Value.int .i64)) ∧ Below w.heap.size w w' := by
  obtain ⟨p1, p2, p3, p4, p5, p6, p7, p8⟩ := hx
  obtain ⟨wi, ti, la, si, ky, en⟩ := x
  dsimp only at *
  have HB := Lib.hid (show hB ⟨wi, ti, la, si, ky, en⟩ = [wi % 65536 / 256, wi % 256, ti / 65536, ti / 256 % 256, ti % 256, la + (if ky then 4 else 0) + (if en then 8 else 0), si / 256, si % 256] by rw [show wi % 256 = wi % 65536 % 256 by omega]; rfl)
  obtain ⟨fl, hf⟩ : ∃ fl, la + (if ky then 4 else 0) + (if en then 8 else 0) = fl := ⟨_, rfl⟩
  cases ky <;> cases en
  all_goals
    go_enter Tryd.func44, Tryd.ntmps44
    go_wp2
    go_ret
    refine ⟨_, _, rfl, ?_, (by repeat (first | exact Below.refl _ _ | assumption | refine Below.setCell ?_ (by first | omega | (simp; done) | (simp; omega)) _ | refine Below.alloc ?_ (by first | omega | (simp; done) | (simp; omega)) _ | refine Below.drew ?_ | refine Below.drewN' ?_ _ | refine Below.trans ?_ (Below.mono (by assumption) (by first | omega | (simp; done) | (simp; omega)))))⟩
    rw [HB.out]
    simp only [Bool.false_eq_true, if_false, if_true, reduceIte, Int.add_zero]
    exact own_bk (r := []) (by rw [List.append_nil]; exact bk_new2 _ _ _ _) (by simp) rfl rfl (Nat.le_refl _) (by unfold maxLen; omega) (one_is _)

set_option maxHeartbeats 2000000 in
theorem shb_any (x : Pk) (w : World) : Calls Tryd.prog 19 #[.agg #[.int .i64 x.wi, .int .i64 x.ti, .int .i64 x.la, .int .i64 x.si, .bool x.ky, .bool x.en]] w fun e w' => (pkOk x → HbYes x w e w') ∧ (¬ pkOk x → HbNo w e w') := by
  have hB0 : Below w.heap.size w (w.alloc (.cells #[.int .i64 x.wi, .int .i64 x.ti, .int .i64 x.la, .int .i64 x.si, .bool x.ky, .bool x.en] 24)) := (by repeat (first | exact Below.refl _ _ | assumption | refine Below.setCell ?_ (by first | omega | (simp; done) | (simp; omega)) _ | refine Below.alloc ?_ (by first | omega | (simp; done) | (simp; omega)) _ | refine Below.drew ?_ | refine Below.drewN' ?_ _ | refine Below.trans ?_ (Below.mono (by assumption) (by first | omega | (simp; done) | (simp; omega)))))
  have hp := Bk.new w 24 #[.int .i64 x.wi, .int .i64 x.ti, .int .i64 x.la, .int .i64 x.si, .bool x.ky, .bool x.en]
  have HB0 := Lib.hid hB0
  have HP := Lib.hid hp
  (try clear hp_c0); (try clear hp_f0)
  (try clear hp_c1); (try clear hp_f1)
  (try clear hp_c2); (try clear hp_f2)
  (try clear hp_c3); (try clear hp_f3)
  (try clear hp_c4); (try clear hp_f4)
  (try clear hp_c5); (try clear hp_f5)
  (try clear hp_lt)
  have hp_lt := hp.lt; (try simp only [World.size_alloc] at hp_lt)
  have hp_c0 := hp.cell 0; have hp_f0 := hp.frozen 0
  have hp_c1 := hp.cell 1; have hp_f1 := hp.frozen 1
  have hp_c2 := hp.cell 2; have hp_f2 := hp.frozen 2
  have hp_c3 := hp.cell 3; have hp_f3 := hp.frozen 3
  have hp_c4 := hp.cell 4; have hp_f4 := hp.frozen 4
  have hp_c5 := hp.cell 5; have hp_f5 := hp.frozen 5
  simp only [List.getElem?_toArray, List.getElem?_cons_zero, List.getElem?_cons_succ] at hp_c0 hp_c1 hp_c2 hp_c3 hp_c4 hp_c5
  clear hp hB0
  go_enter Tryd.func19, Tryd.ntmps19
  go_wp2_with fail
  refine (spk_any x _).mono ?_
  rintro e w1 ⟨rfl, hb1⟩
  (try clear hp_c0); (try clear hp_f0)
  (try clear hp_c1); (try clear hp_f1)
  (try clear hp_c2); (try clear hp_f2)
  (try clear hp_c3); (try clear hp_f3)
  (try clear hp_c4); (try clear hp_f4)
  (try clear hp_c5); (try clear hp_f5)
  (try clear hp_lt)
  have hp1 := HP.out.below hb1 HP.out.lt
  have HB1 := Lib.hid (HB0.out.trans (hb1.mono HB0.out.size))
  have hs1 := hb1.size
  simp only [World.size_alloc] at hs1
  clear hb1
  by_cases hk : pkOk x
  · rw [show pkB x = true from decide_eq_true hk]
    have HK := Lib.hid hk
    clear hk
    (try clear hp1_c0); (try clear hp1_f0)
    (try clear hp1_c1); (try clear hp1_f1)
    (try clear hp1_c2); (try clear hp1_f2)
    (try clear hp1_c3); (try clear hp1_f3)
    (try clear hp1_c4); (try clear hp1_f4)
    (try clear hp1_c5); (try clear hp1_f5)
    (try clear hp1_lt)
    have hp1_lt := hp1.lt; (try simp only [World.size_alloc] at hp1_lt)
    have hp1_c0 := hp1.cell 0; have hp1_f0 := hp1.frozen 0
    have hp1_c1 := hp1.cell 1; have hp1_f1 := hp1.frozen 1
    have hp1_c2 := hp1.cell 2; have hp1_f2 := hp1.frozen 2
    have hp1_c3 := hp1.cell 3; have hp1_f3 := hp1.frozen 3
    have hp1_c4 := hp1.cell 4; have hp1_f4 := hp1.frozen 4
    have hp1_c5 := hp1.cell 5; have hp1_f5 := hp1.frozen 5
    simp only [List.getElem?_toArray, List.getElem?_cons_zero, List.getElem?_cons_succ] at hp1_c0 hp1_c1 hp1_c2 hp1_c3 hp1_c4 hp1_c5
    go_wp2_with fail
    refine (l33_any x HK.out _).mono ?_
    rintro e w2 ⟨A2, c2, rfl, hown, hb2⟩
    have HO := Lib.hid (own_more hown (base' := w.heap.size) (by omega))
    have HB2 := Lib.hid (HB1.out.trans (hb2.mono HB1.out.size))
    clear hown hb2
    go_wp2
    go_ret2
    exact ⟨fun _ => ⟨⟨A2, c2, rfl, HO.out⟩, HB2.out⟩, fun h => absurd HK.out h⟩
  · rw [show pkB x = false from decide_eq_false hk]
    have HK := Lib.hid hk
    have hB1 := HB1.out
    clear hk
    go_wp2
    go_ret2
    exact ⟨fun h => absurd h HK.out, fun _ => ⟨⟨_, _, rfl⟩, (hB1.alloc (by omega) _)⟩⟩

set_option maxHeartbeats 2000000 in
theorem ihb_any (x : Pk) (w : World) : Calls Tryd.prog 18 #[.agg #[.int .i64 x.wi, .int .i64 x.ti, .int .i64 x.la, .int .i64 x.si, .bool x.ky, .bool x.en]] w fun e w' => (pkOk x → HbYes x w e w') ∧ (¬ pkOk x → HbNo w e w') := by
  have hB0 : Below w.heap.size w (w.alloc (.cells #[.int .i64 x.wi, .int .i64 x.ti, .int .i64 x.la, .int .i64 x.si, .bool x.ky, .bool x.en] 24)) := (by repeat (first | exact Below.refl _ _ | assumption | refine Below.setCell ?_ (by first | omega | (simp; done) | (simp; omega)) _ | refine Below.alloc ?_ (by first | omega | (simp; done) | (simp; omega)) _ | refine Below.drew ?_ | refine Below.drewN' ?_ _ | refine Below.trans ?_ (Below.mono (by assumption) (by first | omega | (simp; done) | (simp; omega)))))
  have hp := Bk.new w 24 #[.int .i64 x.wi, .int .i64 x.ti, .int .i64 x.la, .int .i64 x.si, .bool x.ky, .bool x.en]
  have HB0 := Lib.hid hB0
  have HP := Lib.hid hp
  (try clear hp_c0); (try clear hp_f0)
  (try clear hp_c1); (try clear hp_f1)
  (try clear hp_c2); (try clear hp_f2)
  (try clear hp_c3); (try clear hp_f3)
  (try clear hp_c4); (try clear hp_f4)
  (try clear hp_c5); (try clear hp_f5)
  (try clear hp_lt)
  have hp_lt := hp.lt; (try simp only [World.size_alloc] at hp_lt)
  have hp_c0 := hp.cell 0; have hp_f0 := hp.frozen 0
  have hp_c1 := hp.cell 1; have hp_f1 := hp.frozen 1
  have hp_c2 := hp.cell 2; have hp_f2 := hp.frozen 2
  have hp_c3 := hp.cell 3; have hp_f3 := hp.frozen 3
  have hp_c4 := hp.cell 4; have hp_f4 := hp.frozen 4
  have hp_c5 := hp.cell 5; have hp_f5 := hp.frozen 5
  simp only [List.getElem?_toArray, List.getElem?_cons_zero, List.getElem?_cons_succ] at hp_c0 hp_c1 hp_c2 hp_c3 hp_c4 hp_c5
  clear hp hB0
  go_enter Tryd.func18, Tryd.ntmps18
  go_wp2_with fail
  refine (ipk_any x _).mono ?_
  rintro e w1 ⟨rfl, hb1⟩
  (try clear hp_c0); (try clear hp_f0)
  (try clear hp_c1); (try clear hp_f1)
  (try clear hp_c2); (try clear hp_f2)
  (try clear hp_c3); (try clear hp_f3)
  (try clear hp_c4); (try clear hp_f4)
  (try clear hp_c5); (try clear hp_f5)
  (try clear hp_lt)
  have hp1 := HP.out.below hb1 HP.out.lt
  have HB1 := Lib.hid (HB0.out.trans (hb1.mono HB0.out.size))
  have hs1 := hb1.size
  simp only [World.size_alloc] at hs1
  clear hb1
  by_cases hk : pkOk x
  · rw [show pkB x = true from decide_eq_true hk]
    have HK := Lib.hid hk
    clear hk
    have hmk : ∀ w, (Instr.makeSlice 22 (.int .i64 0) (.int .i64 8)).run Tryd.prog w = .ok (.slice (some ⟨w.heap.size, 0, none⟩) 0 8) (w.alloc (.cells #[.int .i64 0, .int .i64 0, .int .i64 0, .int .i64 0, .int .i64 0, .int .i64 0, .int .i64 0, .int .i64 0] 3)) := fun w => by kernel_rfl
    have HOW := Lib.hid (show ((w1.alloc (.cells #[.int .i64 0, .int .i64 0, .int .i64 0, .int .i64 0, .int .i64 0, .int .i64 0, .int .i64 0, .int .i64 0] 3)).drew).ownsRow w1.heap.size 3 1 (.slice (some ⟨w1.heap.size, 0, none⟩) 0 8) 0 (([] : List Int).map (Value.int .i64)) from own_bk (xs := []) (r := [.int .i64 0, .int .i64 0, .int .i64 0, .int .i64 0, .int .i64 0, .int .i64 0, .int .i64 0, .int .i64 0]) (Bk.new _ _ _) (Nat.le_refl _) rfl rfl (by omega) (by unfold maxLen; omega) (by simp))
    have HP1 := Lib.hid hp1
    (try clear hp1_c0); (try clear hp1_f0)
    (try clear hp1_c1); (try clear hp1_f1)
    (try clear hp1_c2); (try clear hp1_f2)
    (try clear hp1_c3); (try clear hp1_f3)
    (try clear hp1_c4); (try clear hp1_f4)
    (try clear hp1_c5); (try clear hp1_f5)
    (try clear hp1_lt)
    have hp1_lt := hp1.lt; (try simp only [World.size_alloc] at hp1_lt)
    have hp1_c0 := hp1.cell 0; have hp1_f0 := hp1.frozen 0
    have hp1_c1 := hp1.cell 1; have hp1_f1 := hp1.frozen 1
    have hp1_c2 := hp1.cell 2; have hp1_f2 := hp1.frozen 2
    have hp1_c3 := hp1.cell 3; have hp1_f3 := hp1.frozen 3
    have hp1_c4 := hp1.cell 4; have hp1_f4 := hp1.frozen 4
    have hp1_c5 := hp1.cell 5; have hp1_f5 := hp1.frozen 5
    simp only [List.getElem?_toArray, List.getElem?_cons_zero, List.getElem?_cons_succ] at hp1_c0 hp1_c1 hp1_c2 hp1_c3 hp1_c4 hp1_c5
    clear hp1
    go_wp2_with fail
    go_region_held3 (fun w' => w'.cell? ⟨w.heap.size, 0, none⟩ = some (.int .i64 x.wi) ∧ w'.cell? ⟨w.heap.size, 1, none⟩ = some (.int .i64 x.ti) ∧ w'.cell? ⟨w.heap.size, 2, none⟩ = some (.int .i64 x.la) ∧ w'.cell? ⟨w.heap.size, 3, none⟩ = some (.int .i64 x.si) ∧ w'.cell? ⟨w.heap.size, 4, none⟩ = some (.bool x.ky) ∧ w'.cell? ⟨w.heap.size, 5, none⟩ = some (.bool x.en)) ((first | go_keep | (repeat' (first | with_reducible assumption | apply And.intro | rw [World.cell?_setCell_other _ _ _ _ (fun e => by injection e; omega)])))) ((go_at_call 43; refine (aph_any w1.heap.size 0 8 _ [] x _ HOW.out (show w1.heap.size ≤ (w1.alloc _).heap.size by simp) (by omega) HK.out).mono ?_; rintro e w2 ⟨A2, c2, rfl, hown2, hG2⟩; have hq := Bk.gr (HP1.out.alloc _).drew hG2 (fun k hk => by simp [Value.ownBlock] at hk; omega); have z0 := hq.cell 0; have z1 := hq.cell 1; have z2 := hq.cell 2; have z3 := hq.cell 3; have z4 := hq.cell 4; have z5 := hq.cell 5; simp only [List.getElem?_toArray, List.getElem?_cons_zero, List.getElem?_cons_succ] at z0 z1 z2 z3 z4 z5; clear hq))
    have HO2 := Lib.hid (own_more hown2 (base' := w.heap.size) (by omega))
    have HB2 := Lib.hid (show Below w.heap.size w w2 from (HB1.out.alloc HB1.out.size _).drew.trans ((hG2.below HOW.out (show w1.heap.size ≤ (w1.alloc _).heap.size by simp)).mono (by omega)))
    go_wp2
    go_ret2
    exact ⟨fun _ => ⟨⟨A2, c2, by simp, by simpa using HO2.out⟩, HB2.out⟩, fun h => absurd HK.out h⟩
  · rw [show pkB x = false from decide_eq_false hk]
    have HK := Lib.hid hk
    have hB1 := HB1.out
    clear hk
    go_wp2
    go_ret2
    exact ⟨fun h => absurd h HK.out, fun _ => ⟨⟨_, _, rfl⟩, (hB1.alloc (by omega) _)⟩⟩
end Go.Proofs.YtjpglpglgkopiaaDoor
