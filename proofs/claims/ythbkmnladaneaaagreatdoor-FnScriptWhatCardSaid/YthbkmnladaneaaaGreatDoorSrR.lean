/-
  The ring as an array: the walk of ring.
  Conditions: as each theorem states them.
-/
import Derived.Test.YthbkmnladaneaaaGreatDoorSrW
namespace Go.Proofs.YthbkmnladaneaaaGreatDoor
open Go.RowKit
set_option linter.unusedVariables false
set_option linter.unusedSimpArgs false
set_option maxRecDepth 100000

/-- The packets of numbers o to o + n - 1. -/
def itemsOf (ps : List Pk) (r o n : Nat) : List Pk := (List.range n).map fun i => ps[(o + i) % r]?.getD pk0
theorem items_succ (ps : List Pk) (r o n : Nat) : itemsOf ps r o (n + 1) = itemsOf ps r o n ++ [ps[(o + n) % r]?.getD pk0] := by simp [itemsOf, List.range_succ]
theorem items_len (ps : List Pk) (r o n : Nat) : (itemsOf ps r o n).length = n := by simp [itemsOf]

set_option maxHeartbeats 4000000 in
theorem bring_any (g r o c : Nat) (ps : List Pk) (w : World) (h : RBk 135 w g ps r o c) (hr1 : 1 ≤ r) (hr8 : r ≤ 8) (hoc : o ≤ c) (hn8 : c - o ≤ r) (hc : c ≤ 1000000) :
    Calls Tryz.prog 105 #[.pointer (some ⟨g, 0, none⟩)] w fun e w' => ∃ v, e = .returned (.agg #[.int .i64 r, .int .i64 c, v]) ∧ w'.ownsRow w.heap.size 81 6 v (c - o) ((itemsOf ps r o (c - o)).flatMap Pk.c) ∧ Below w.heap.size w w' := by
  have hgl := h.lt
  have hR0 := Bk.new w 34 #[.int .i64 0, .int .i64 0, .slice none 0 0]
  have hBa : Below w.heap.size w (w.alloc (.cells #[.int .i64 0, .int .i64 0, .slice none 0 0] 34)) := (Below.refl _ _).alloc (Nat.le_refl _) _
  have hR := h.below hBa hgl
  obtain ⟨i0, hi0, hz0, hz1, hz2⟩ := info_parts pki_info
  obtain ⟨b48, b49, b50⟩ := hR.cells
  have wr1 : IntKind.i64.wrap ((c : Int) - (o : Int)) = (c : Int) - o := by rw [IntKind.wrap_i64]; omega
  have r0 : ((r : Int) == 0) = false := by simp; omega
  have r1 : (r = 0) = False := by simp; omega
  obtain ⟨n, hn⟩ : ∃ n, c - o = n := ⟨_, rfl⟩
  have HNO := Lib.hid (show (c : Int) - o = n by omega)
  rw [hn]
  have HR := Lib.hid hR
  clear hR h
  go_enter Tryz.func105, Tryz.ntmps105
  go_wp2_with fail
  generalize (w.alloc (.cells #[.int .i64 0, .int .i64 0, .slice none 0 0] 34)) = wa at *
  refine wp_still_tail 9 (by kernel_rfl) (by kernel_rfl) ?_
  simp only [List.take_succ_cons, List.take_zero, List.drop_succ_cons, List.drop_zero]
  repeat still_step
  refine wpStill_nil ?_
  have hwa : w.heap.size ≤ wa.drew.heap.size := hBa.size
  have hwa1 : w.heap.size + 1 ≤ wa.drew.heap.size := hR0.lt
  have HR0 := Lib.hid hR0
  have HBA := Lib.hid hBa
  clear hR0 hBa
  go_wp2_with (at_make; refine wpList_make_own _ rfl _ _ 32 rfl (w.heap.size + 1) 81 i0 (.agg #[.int .i64 0, .int .i64 0, .int .i64 0, .int .i64 0, .bool false, .bool false]) 6 Tryz.underlying32 hi0 hz0 hz1 .i64 .i64 _ n rfl rfl HNO.out (by rw [hz2]; omega) (by unfold maxLen; omega) hwa1 ?_; intro w1 hown hgrow; have HG1 := Lib.hid hgrow; have HB1 : RBk 135 w1 g ps r o c := ⟨HR.out.1, HR.out.2.drew.grown hgrow (by simp)⟩; obtain ⟨e48, e49, e50⟩ := HB1.cells; clear b48 b49 b50)
  have hB1 : Below w.heap.size w w1 := (HBA.out.drew).grown HG1.out hwa (by simp)
  have hR1 := HR0.out.drew.grown HG1.out (by simp)
  have HO1 := Lib.hid hown
  clear hown HG1
  have HB1' := Lib.hid HB1
  clear e48 e49 e50 HB1
  go_loopw [3, 4] (fun v nn wr => ∃ (i : Nat), i ≤ n ∧ nn = .int .i64 ((o + i : Nat) : Int) ∧ wr.ownsRow (w.heap.size + 1) 81 6 v i ((itemsOf ps r o i).flatMap Pk.c) ∧ RBk 135 wr g ps r o c ∧ Bk wr w.heap.size 34 #[.int .i64 0, .int .i64 0, .slice none 0 0] ∧ Below w.heap.size w wr) (fun _ nn _ => c - (intOf nn).toNat)
  case atStart => exact ⟨0, by omega, by simp, by simpa [itemsOf] using HO1.out, HB1'.out, hR1, hB1⟩
  case round =>
    clear HO1 HB1' hR1 hB1
    obtain ⟨i, hi, rfl, hown, hbuf, hres, hB⟩ := hrel
    have hbs := hB.size
    obtain ⟨m, hm⟩ : ∃ m, o + i = m := ⟨_, rfl⟩
    have HM := Lib.hid hm
    rw [hm]
    obtain ⟨e48, e49, e50⟩ := hbuf.cells
    have hgw := hbuf.lt
    have hresl := hres.lt
    by_cases hlt : i < n
    · have e0 : decide (m < c) = true := by simp; omega
      obtain ⟨k, hk⟩ : ∃ k, m % r = k := ⟨_, rfl⟩
      have hk8 : k < r := by rw [← hk]; exact Nat.mod_lt _ (by omega)
      have hrem : Int.tmod (m : Int) (r : Int) = (k : Int) := by rw [← hk]; exact (Int.ofNat_tmod _ _).symm
      have f0 : (0 : Int) ≤ k := by omega
      have f1 : (k : Int) < 8 := by omega
      obtain ⟨x, hx⟩ : ∃ x, ps[k]? = some x := ⟨_, List.getElem?_eq_getElem (by rw [hbuf.1]; omega)⟩
      obtain ⟨y0, y1, y2, y3, y4, y5⟩ := hbuf.at_ hx
      have HS := Lib.hid (show itemsOf ps r o (i + 1) = itemsOf ps r o i ++ [x] by rw [items_succ, hm, hk, hx]; rfl)
      obtain ⟨A3, c3, rfl, -, -, -⟩ := own_shape hown
      have HO1 := Lib.hid (show ((wr.alloc (.cells #[.int .i64 x.wi, .int .i64 x.ti, .int .i64 x.la, .int .i64 x.si, .bool x.ky, .bool x.en] 81)).drew).ownsRow (w.heap.size + 1) 81 6 (.slice A3 i c3) i ((itemsOf ps r o i).flatMap Pk.c) from hown.alloc _)
      have HNB := Lib.hid (show Sl ((wr.alloc (.cells #[.int .i64 x.wi, .int .i64 x.ti, .int .i64 x.la, .int .i64 x.si, .bool x.ky, .bool x.en] 81)).drew) (wr.heap.size + 1) 6 (some ⟨wr.heap.size, 0, none⟩) 1 x.c from ⟨rfl, fun _ => ⟨wr.heap.size, 0, rfl, by omega, fun j u hu => by
        rw [Nat.zero_add]
        exact ((Bk.new wr 81 #[.int .i64 x.wi, .int .i64 x.ti, .int .i64 x.la, .int .i64 x.si, .bool x.ky, .bool x.en]).cell j).trans (by simpa [Pk.c] using hu)⟩⟩)
      have HBUF := Lib.hid hbuf
      have HRES := Lib.hid hres
      have HBD := Lib.hid (show Below w.heap.size w (wr.alloc (.cells #[.int .i64 x.wi, .int .i64 x.ti, .int .i64 x.la, .int .i64 x.si, .bool x.ky, .bool x.en] 81)).drew from (hB.alloc hbs _).drew)
      have hne : g ≠ w.heap.size := by omega
      have HX := Lib.hid hx
      clear hk hx hown hm
      go_wp2_with fail
      go_region_held3 (fun w' => w'.cell? ⟨g, 48, none⟩ = some (.int .i64 r) ∧ w'.cell? ⟨g, k * 6, none⟩ = some (.int .i64 x.wi) ∧ w'.cell? ⟨g, k * 6 + 1, none⟩ = some (.int .i64 x.ti) ∧ w'.cell? ⟨g, k * 6 + 2, none⟩ = some (.int .i64 x.la) ∧ w'.cell? ⟨g, k * 6 + 3, none⟩ = some (.int .i64 x.si) ∧ w'.cell? ⟨g, k * 6 + 4, none⟩ = some (.bool x.ky) ∧ w'.cell? ⟨g, k * 6 + 5, none⟩ = some (.bool x.en)) ((first | go_keep | (repeat' (first | with_reducible assumption | apply And.intro | rw [World.cell?_setCell_other _ _ _ _ (fun e => by injection e; omega)]))))
        ((refine step_app _ (by rfl) _ _ _ (by rfl) (w.heap.size + 1) 81 i0 _ 6 40 Tryz.underlying32 hi0 hz0 hz1 hz2 rfl (by omega) _ i _ (by rfl) HO1.out (wr.heap.size + 1) _ 1 1 _ (by rfl) HNB.out (one_pk x) (by unfold maxLen; omega) (by omega) (by show w.heap.size + 1 ≤ (wr.alloc _).heap.size; simp; omega) ?_; intro v2 w2 hown2 hgrow hat; have hbf2 : RBk 135 w2 g ps r o c := ⟨HBUF.out.1, ((HBUF.out.2.alloc (.cells #[.int .i64 x.wi, .int .i64 x.ti, .int .i64 x.la, .int .i64 x.si, .bool x.ky, .bool x.en] 81)).drew).grown_own hgrow HO1.out (by omega)⟩; have hrs2 := ((HRES.out.alloc (.cells #[.int .i64 x.wi, .int .i64 x.ti, .int .i64 x.la, .int .i64 x.si, .bool x.ky, .bool x.en] 81)).drew).grown_own hgrow HO1.out (by omega); obtain ⟨t48, t49, t50⟩ := hbf2.cells; obtain ⟨t0, t1, t2, t3, t4, t5⟩ := hbf2.at_ HX.out))
      have hB2 : Below w.heap.size w w2 := Below.grown_own HBD.out hgrow HO1.out (by omega) (by show w.heap.size ≤ (wr.alloc _).heap.size; simp; omega)
      have HO2 := Lib.hid (show w2.ownsRow (w.heap.size + 1) 81 6 v2 (i + 1) ((itemsOf ps r o (i + 1)).flatMap Pk.c) by rw [HS.out, List.flatMap_append]; simpa using hown2)
      have hmm := HM.out
      have HBF2 := Lib.hid hbf2
      clear hown2 hgrow hat t48 t49 t50 t0 t1 t2 t3 t4 t5 hbf2
      go_wp2
      go_roundw
      case rel => exact ⟨i + 1, by omega, by rw [show o + (i + 1) = m + 1 by omega]; go_num, HO2.out, HBF2.out, hrs2, hB2⟩
      case measure => simp [intOf]; omega
    · have hin : i = n := by omega
      subst hin
      have e0 : decide (m < c) = false := by simp; omega
      obtain ⟨A3, c3, rfl, -, -, -⟩ := own_shape hown
      have HOW := Lib.hid hown
      clear hown
      (try clear hres_c0); (try clear hres_f0)
      (try clear hres_c1); (try clear hres_f1)
      (try clear hres_c2); (try clear hres_f2)
      (try clear hres_lt)
      have hres_lt := hres.lt; (try simp only [World.size_alloc] at hres_lt)
      have hres_c0 := hres.cell 0; have hres_f0 := hres.frozen 0
      have hres_c1 := hres.cell 1; have hres_f1 := hres.frozen 1
      have hres_c2 := hres.cell 2; have hres_f2 := hres.frozen 2
      simp only [List.getElem?_toArray, List.getElem?_cons_zero, List.getElem?_cons_succ] at hres_c0 hres_c1 hres_c2
      have hne : g ≠ w.heap.size := by omega
      go_wp2_with fail
      refine wp_still_tail 10 (by kernel_rfl) (by kernel_rfl) ?_
      simp only [List.take_succ_cons, List.take_zero, List.drop_succ_cons, List.drop_zero]
      repeat still_step
      refine wpStill_nil ?_
      go_wp2
      have HFIN := Lib.hid (own_more (own_but HOW.out (X := fun k' => k' = w.heap.size) (((((But.refl (fun k' => k' = w.heap.size) wr).setCell (p := ⟨w.heap.size, 0, none⟩) (.inl rfl) (.int .i64 r)).setCell (p := ⟨w.heap.size, 1, none⟩) (.inl rfl) (.int .i64 c)).setCell (p := ⟨w.heap.size, 2, none⟩) (.inl rfl) (.slice A3 i c3)).drew) (fun k' hk' e => by have := HOW.out.lt k' hk'; omega)) (base' := w.heap.size) (by omega))
      have HBF := Lib.hid ((((hB.setCell (p := ⟨w.heap.size, 0, none⟩) (Nat.le_refl _) (.int .i64 r)).setCell (p := ⟨w.heap.size, 1, none⟩) (Nat.le_refl _) (.int .i64 c)).setCell (p := ⟨w.heap.size, 2, none⟩) (Nat.le_refl _) (.slice A3 i c3)).drew)
      refine ⟨rfl, ?_⟩
      apply Exists.intro
      apply And.intro
      · simp [results, Tryz.results105, go_sem, hres_c0, hres_c1, hres_c2, hres_lt]; exact rfl
      · exact ⟨_, rfl, HFIN.out, HBF.out⟩
end Go.Proofs.YthbkmnladaneaaaGreatDoor
