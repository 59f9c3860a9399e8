/-
  The ring as an array: the walk of newRingBuffer.
  Conditions: as each theorem states them.
-/
import Derived.Test.YthbkmnladaneaaaGreatDoorSrR
namespace Go.Proofs.YthbkmnladaneaaaGreatDoor
open Go.RowKit
set_option linter.unusedVariables false
set_option linter.unusedSimpArgs false
set_option maxRecDepth 100000

theorem Bk.setCells {g : Nat} {T : TypeId} : ∀ (vs pre suf : List Value) (w : World), Bk w g T (pre ++ suf).toArray → suf.length = vs.length → Bk (w.setCells g pre.length vs) g T (pre ++ vs).toArray
  | [], pre, suf, w, h, hl => by
    have : suf = [] := List.eq_nil_of_length_eq_zero hl
    subst this
    exact h
  | v :: vs, pre, [], w, h, hl => by simp at hl
  | v :: vs, pre, u :: suf, w, h, hl => by
    have h1 := Bk.put h rfl v
    have h2 := Bk.setCells vs (pre ++ [v]) suf (w.setCell ⟨g, pre.length, none⟩ v) (by simpa using h1) (by simpa using hl)
    rw [World.setCells]
    simpa using h2
theorem Only.setCells {g : Nat} {a : World} : ∀ (vs : List Value) (o : Nat) (w : World), Only g a w → Only g a (w.setCells g o vs)
  | [], o, w, h => h
  | v :: vs, o, w, h => by
    rw [World.setCells]
    exact Only.setCells vs (o + 1) _ (h.setCell (.inl rfl) v)
theorem there_of {w : World} {g n : Nat} {T : TypeId} {cs : Array Value} (h : Bk w g T cs) (hn : n ≤ cs.size) : w.there g 0 n := fun j hj => by
  constructor
  · rw [h.cell]
    simp
    omega
  · exact h.frozen _
section
variable {P : Program}
/-- A whole struct into a block that is known. -/
theorem wpList_store_bk {ops : Array Oper} {rest : List Oper} {op : Oper} {a : Act} {w : World} {Q : Exit → Act → World → Prop} (hgd : op.guard = none) (ty : TypeId) (x y : Operand) (ho : op.op = .store ty x y)
    (g : Nat) (T : TypeId) (cs : Array Value) (cells : List Value) (hx : a.eval x = .pointer (some ⟨g, 0, none⟩)) (hy : a.eval y = .agg cells.toArray)
    (hb : Bk w g T cs) (hs : cs.size = cells.length) (hi : (P.info? ty).map (·.size) = some cells.toArray.size) (h1 : ∀ u ∈ cells, u.oneCell' = true)
    (h : ∀ w', Bk w' g T cells.toArray → Only g w w' → wpList P ops Q rest (a.put op.dst undef) w') : wpList P ops Q (op :: rest) a w := by
  refine wpList_store_mid hgd ty x y ho g 0 cells.toArray hx hy (there_of hb (by simp; omega)) hi (all_oneCell_toArray h1) (h _ ?_ ?_)
  · have := Bk.setCells cells [] cs.toList w (by simpa using hb) (by simpa using hs)
    simpa using this
  · exact Only.setCells _ _ _ (Only.refl _ _)
/-- A whole struct out of a block that is known. -/
theorem wpList_load_bk {ops : Array Oper} {rest : List Oper} {op : Oper} {a : Act} {w : World} {Q : Exit → Act → World → Prop} (hgd : op.guard = none) (ty : TypeId) (x : Operand) (ho : op.op = .load ty x)
    (g : Nat) (T : TypeId) (cells : List Value) (d : TypeDesc) (hx : a.eval x = .pointer (some ⟨g, 0, none⟩)) (hb : Bk w g T cells.toArray)
    (hu : P.underlying ty = some d) (hd : d.isRow = true) (hi : (P.info? ty).map (·.size) = some cells.length)
    (h : wpList P ops Q rest (a.put op.dst (.agg cells.toArray)) w) : wpList P ops Q (op :: rest) a w :=
  wpList_load_mid hgd ty x ho g 0 hx cells d (fun j v hv => by rw [Nat.zero_add, hb.cell]; simpa using hv) hu hd hi h
theorem run_load_bk {w : World} {g : Nat} {T ty : TypeId} {cells : List Value} {d : TypeDesc} (hb : Bk w g T cells.toArray)
    (hu : P.underlying ty = some d) (hd : d.isRow = true) (hi : (P.info? ty).map (·.size) = some cells.length) : (loadVar ty ⟨g, 0, none⟩).run P w = .ok (.agg cells.toArray) w :=
  run_loadVar_mid w g 0 ty cells d (fun j v hv => by rw [Nat.zero_add, hb.cell]; simpa using hv) hu hd hi
end

/-- The array behind k packets. -/
def psOf (xs : List Pk) (r o : Nat) : Nat → List Pk
  | 0 => List.replicate 8 pk0
  | k + 1 => (psOf xs r o k).set ((o + k) % r) (xs[k]?.getD pk0)
theorem psOf_len (xs : List Pk) (r o : Nat) : ∀ k, (psOf xs r o k).length = 8
  | 0 => by simp [psOf]
  | k + 1 => by rw [psOf, List.length_set, psOf_len xs r o k]
theorem buf_size : (Tryz.prog.info? 135).map (·.size) = some 51 := by kernel_rfl

set_option maxHeartbeats 8000000 in
theorem bnew_any (r c : Nat) (A : Option Addr) (n cap : Nat) (xs : List Pk) (w : World) (h : Pks w w.heap.size A n xs) (hr1 : 1 ≤ r) (hr8 : r ≤ 8) (hn8 : n ≤ r) (hnc : n ≤ c) (hc : c ≤ 999999) :
    Calls Tryz.prog 103 #[.agg #[.int .i64 r, .int .i64 c, .slice A n cap]] w fun e w' => e = .returned (.agg (bufC (psOf xs r (c - n) n) r ((c - n : Nat)) c).toArray) ∧ Below w.heap.size w w' := by
  have HL := Lib.hid h.len
  obtain ⟨o, ho⟩ : ∃ o, c - n = o := ⟨_, rfl⟩
  have HOC := Lib.hid (show (c : Int) - n = o by omega)
  rw [ho]
  have hZ := Bk.new ((w.alloc (.cells #[.int .i64 r, .int .i64 c, .slice A n cap] 34)).alloc (.cells #[.int .i64 0, .int .i64 0, .int .i64 0, .int .i64 0, .bool false, .bool false, .int .i64 0, .int .i64 0, .int .i64 0, .int .i64 0, .bool false, .bool false, .int .i64 0, .int .i64 0, .int .i64 0, .int .i64 0, .bool false, .bool false, .int .i64 0, .int .i64 0, .int .i64 0, .int .i64 0, .bool false, .bool false, .int .i64 0, .int .i64 0, .int .i64 0, .int .i64 0, .bool false, .bool false, .int .i64 0, .int .i64 0, .int .i64 0, .int .i64 0, .bool false, .bool false, .int .i64 0, .int .i64 0, .int .i64 0, .int .i64 0, .bool false, .bool false, .int .i64 0, .int .i64 0, .int .i64 0, .int .i64 0, .bool false, .bool false, .int .i64 0, .int .i64 0, .int .i64 0] 135)) 135 #[.int .i64 0, .int .i64 0, .int .i64 0, .int .i64 0, .bool false, .bool false, .int .i64 0, .int .i64 0, .int .i64 0, .int .i64 0, .bool false, .bool false, .int .i64 0, .int .i64 0, .int .i64 0, .int .i64 0, .bool false, .bool false, .int .i64 0, .int .i64 0, .int .i64 0, .int .i64 0, .bool false, .bool false, .int .i64 0, .int .i64 0, .int .i64 0, .int .i64 0, .bool false, .bool false, .int .i64 0, .int .i64 0, .int .i64 0, .int .i64 0, .bool false, .bool false, .int .i64 0, .int .i64 0, .int .i64 0, .int .i64 0, .bool false, .bool false, .int .i64 0, .int .i64 0, .int .i64 0, .int .i64 0, .bool false, .bool false, .int .i64 0, .int .i64 0, .int .i64 0]
  have hY := (Bk.new (w.alloc (.cells #[.int .i64 r, .int .i64 c, .slice A n cap] 34)) 135 #[.int .i64 0, .int .i64 0, .int .i64 0, .int .i64 0, .bool false, .bool false, .int .i64 0, .int .i64 0, .int .i64 0, .int .i64 0, .bool false, .bool false, .int .i64 0, .int .i64 0, .int .i64 0, .int .i64 0, .bool false, .bool false, .int .i64 0, .int .i64 0, .int .i64 0, .int .i64 0, .bool false, .bool false, .int .i64 0, .int .i64 0, .int .i64 0, .int .i64 0, .bool false, .bool false, .int .i64 0, .int .i64 0, .int .i64 0, .int .i64 0, .bool false, .bool false, .int .i64 0, .int .i64 0, .int .i64 0, .int .i64 0, .bool false, .bool false, .int .i64 0, .int .i64 0, .int .i64 0, .int .i64 0, .bool false, .bool false, .int .i64 0, .int .i64 0, .int .i64 0]).alloc (.cells #[.int .i64 0, .int .i64 0, .int .i64 0, .int .i64 0, .bool false, .bool false, .int .i64 0, .int .i64 0, .int .i64 0, .int .i64 0, .bool false, .bool false, .int .i64 0, .int .i64 0, .int .i64 0, .int .i64 0, .bool false, .bool false, .int .i64 0, .int .i64 0, .int .i64 0, .int .i64 0, .bool false, .bool false, .int .i64 0, .int .i64 0, .int .i64 0, .int .i64 0, .bool false, .bool false, .int .i64 0, .int .i64 0, .int .i64 0, .int .i64 0, .bool false, .bool false, .int .i64 0, .int .i64 0, .int .i64 0, .int .i64 0, .bool false, .bool false, .int .i64 0, .int .i64 0, .int .i64 0, .int .i64 0, .bool false, .bool false, .int .i64 0, .int .i64 0, .int .i64 0] 135)
  have hX := ((Bk.new w 34 #[.int .i64 r, .int .i64 c, .slice A n cap]).alloc (.cells #[.int .i64 0, .int .i64 0, .int .i64 0, .int .i64 0, .bool false, .bool false, .int .i64 0, .int .i64 0, .int .i64 0, .int .i64 0, .bool false, .bool false, .int .i64 0, .int .i64 0, .int .i64 0, .int .i64 0, .bool false, .bool false, .int .i64 0, .int .i64 0, .int .i64 0, .int .i64 0, .bool false, .bool false, .int .i64 0, .int .i64 0, .int .i64 0, .int .i64 0, .bool false, .bool false, .int .i64 0, .int .i64 0, .int .i64 0, .int .i64 0, .bool false, .bool false, .int .i64 0, .int .i64 0, .int .i64 0, .int .i64 0, .bool false, .bool false, .int .i64 0, .int .i64 0, .int .i64 0, .int .i64 0, .bool false, .bool false, .int .i64 0, .int .i64 0, .int .i64 0] 135)).alloc (.cells #[.int .i64 0, .int .i64 0, .int .i64 0, .int .i64 0, .bool false, .bool false, .int .i64 0, .int .i64 0, .int .i64 0, .int .i64 0, .bool false, .bool false, .int .i64 0, .int .i64 0, .int .i64 0, .int .i64 0, .bool false, .bool false, .int .i64 0, .int .i64 0, .int .i64 0, .int .i64 0, .bool false, .bool false, .int .i64 0, .int .i64 0, .int .i64 0, .int .i64 0, .bool false, .bool false, .int .i64 0, .int .i64 0, .int .i64 0, .int .i64 0, .bool false, .bool false, .int .i64 0, .int .i64 0, .int .i64 0, .int .i64 0, .bool false, .bool false, .int .i64 0, .int .i64 0, .int .i64 0, .int .i64 0, .bool false, .bool false, .int .i64 0, .int .i64 0, .int .i64 0] 135)
  simp only [World.size_alloc] at hY hZ
  have hB : Below w.heap.size w (((w.alloc (.cells #[.int .i64 r, .int .i64 c, .slice A n cap] 34)).alloc (.cells #[.int .i64 0, .int .i64 0, .int .i64 0, .int .i64 0, .bool false, .bool false, .int .i64 0, .int .i64 0, .int .i64 0, .int .i64 0, .bool false, .bool false, .int .i64 0, .int .i64 0, .int .i64 0, .int .i64 0, .bool false, .bool false, .int .i64 0, .int .i64 0, .int .i64 0, .int .i64 0, .bool false, .bool false, .int .i64 0, .int .i64 0, .int .i64 0, .int .i64 0, .bool false, .bool false, .int .i64 0, .int .i64 0, .int .i64 0, .int .i64 0, .bool false, .bool false, .int .i64 0, .int .i64 0, .int .i64 0, .int .i64 0, .bool false, .bool false, .int .i64 0, .int .i64 0, .int .i64 0, .int .i64 0, .bool false, .bool false, .int .i64 0, .int .i64 0, .int .i64 0] 135)).alloc (.cells #[.int .i64 0, .int .i64 0, .int .i64 0, .int .i64 0, .bool false, .bool false, .int .i64 0, .int .i64 0, .int .i64 0, .int .i64 0, .bool false, .bool false, .int .i64 0, .int .i64 0, .int .i64 0, .int .i64 0, .bool false, .bool false, .int .i64 0, .int .i64 0, .int .i64 0, .int .i64 0, .bool false, .bool false, .int .i64 0, .int .i64 0, .int .i64 0, .int .i64 0, .bool false, .bool false, .int .i64 0, .int .i64 0, .int .i64 0, .int .i64 0, .bool false, .bool false, .int .i64 0, .int .i64 0, .int .i64 0, .int .i64 0, .bool false, .bool false, .int .i64 0, .int .i64 0, .int .i64 0, .int .i64 0, .bool false, .bool false, .int .i64 0, .int .i64 0, .int .i64 0] 135)) := (by repeat (first | exact Below.refl _ _ | assumption | refine Below.setCell ?_ (by first | omega | (simp; done) | (simp; omega)) _ | refine Below.alloc ?_ (by first | omega | (simp; done) | (simp; omega)) _ | refine Below.drew ?_ | refine Below.drewN' ?_ _ | refine Below.trans ?_ (Below.mono (by assumption) (by first | omega | (simp; done) | (simp; omega)))))
  have HZ := Lib.hid hZ
  have HY := Lib.hid hY
  have HX := Lib.hid hX
  have HB := Lib.hid hB
  have wr1 : IntKind.i64.wrap ((c : Int) - (n : Int)) = (o : Int) := by rw [IntKind.wrap_i64]; omega
  have hon : (c : Int) - (n : Int) = o := HOC.out
  clear hZ hY hX hB
  go_enter Tryz.func103, Tryz.ntmps103
  go_wp2_with (refine wpList_store_bk rfl 135 _ _ rfl (w.heap.size + 1 + 1) 135 _ (bufC (List.replicate 8 pk0) r o c) (by rfl) (by rfl) HZ.out (by rfl) (by rw [show (bufC (List.replicate 8 pk0) (r : Int) o c).toArray.size = 51 from rfl]; exact buf_size) one_buf ?_; intro w2 hb2 ho2; have hx2 := HX.out.only ho2 (by omega); have x22 := hx2.cell 2; simp only [List.getElem?_toArray, List.getElem?_cons_zero, List.getElem?_cons_succ] at x22)
  have HBU : RBk 135 w2 (w.heap.size + 1 + 1) (psOf xs r o 0) r o c := ⟨by simp [psOf], hb2⟩
  have hY2 := HY.out.only ho2 (by omega)
  have hB2 : Below w.heap.size w w2 := HB.out.trans (ho2.below (by omega) HB.out.size)
  clear hb2 ho2 hx2 x22 HX HY HZ HB
  generalize (Value.agg #[.int .i64 0, .int .i64 0, .int .i64 0, .int .i64 0, .bool false, .bool false, .int .i64 0, .int .i64 0, .int .i64 0, .int .i64 0, .bool false, .bool false, .int .i64 0, .int .i64 0, .int .i64 0, .int .i64 0, .bool false, .bool false, .int .i64 0, .int .i64 0, .int .i64 0, .int .i64 0, .bool false, .bool false, .int .i64 0, .int .i64 0, .int .i64 0, .int .i64 0, .bool false, .bool false, .int .i64 0, .int .i64 0, .int .i64 0, .int .i64 0, .bool false, .bool false, .int .i64 0, .int .i64 0, .int .i64 0, .int .i64 0, .bool false, .bool false, .int .i64 0, .int .i64 0, .int .i64 0, .int .i64 0, .bool false, .bool false, .int .i64 r, .int .i64 o, .int .i64 c]) = vz
  have r0 : ((r : Int) == 0) = false := by simp; omega
  have r1 : (r = 0) = False := by simp; omega
  go_loopw [20] (fun i wr => ∃ (k : Nat), k ≤ n ∧ i = .int .i64 k ∧ Hid (RBk 135 wr (w.heap.size + 1 + 1) (psOf xs r o k) r o c) ∧ Hid (Bk wr (w.heap.size + 1) 135 #[.int .i64 0, .int .i64 0, .int .i64 0, .int .i64 0, .bool false, .bool false, .int .i64 0, .int .i64 0, .int .i64 0, .int .i64 0, .bool false, .bool false, .int .i64 0, .int .i64 0, .int .i64 0, .int .i64 0, .bool false, .bool false, .int .i64 0, .int .i64 0, .int .i64 0, .int .i64 0, .bool false, .bool false, .int .i64 0, .int .i64 0, .int .i64 0, .int .i64 0, .bool false, .bool false, .int .i64 0, .int .i64 0, .int .i64 0, .int .i64 0, .bool false, .bool false, .int .i64 0, .int .i64 0, .int .i64 0, .int .i64 0, .bool false, .bool false, .int .i64 0, .int .i64 0, .int .i64 0, .int .i64 0, .bool false, .bool false, .int .i64 0, .int .i64 0, .int .i64 0]) ∧ Below w.heap.size w wr) (fun i _ => n - (intOf i).toNat)
  case atStart => exact ⟨0, by omega, rfl, HBU, hY2, hB2⟩
  case round =>
    clear HBU hY2 hB2
    obtain ⟨k, hk, rfl, hbuf, hres, hB⟩ := hrel
    have hbs := hB.size
    obtain ⟨e48, e49, e50⟩ := hbuf.out.cells
    have hgw := hbuf.out.lt
    by_cases hlt : k < n
    · have e0 : decide (k < n) = true := by simpa using hlt
      obtain ⟨b, off, rfl, hb, hcell⟩ := h.addr (by omega)
      obtain ⟨x, hx⟩ : ∃ x, xs[k]? = some x := ⟨_, List.getElem?_eq_getElem (by rw [HL.out]; exact hlt)⟩
      obtain ⟨c0, c1, c2, c3, c4, c5⟩ := hcell k x hx
      replace c0 := (hB.cell (p := ⟨b, off + k * 6, none⟩) hb).trans c0
      replace c1 := (hB.cell (p := ⟨b, off + k * 6 + 1, none⟩) hb).trans c1
      replace c2 := (hB.cell (p := ⟨b, off + k * 6 + 2, none⟩) hb).trans c2
      replace c3 := (hB.cell (p := ⟨b, off + k * 6 + 3, none⟩) hb).trans c3
      replace c4 := (hB.cell (p := ⟨b, off + k * 6 + 4, none⟩) hb).trans c4
      replace c5 := (hB.cell (p := ⟨b, off + k * 6 + 5, none⟩) hb).trans c5
      obtain ⟨j, hj⟩ : ∃ j, (o + k) % r = j := ⟨_, rfl⟩
      have hj8 : j < r := by rw [← hj]; exact Nat.mod_lt _ (by omega)
      have hrem : Int.tmod ((o : Int) + k) (r : Int) = (j : Int) := by rw [← hj]; exact (Int.ofNat_tmod _ _).symm
      have wr2 : IntKind.i64.wrap ((o : Int) + (k : Int)) = (o : Int) + k := by rw [IntKind.wrap_i64]; omega
      have f0 : (0 : Int) ≤ j := by omega
      have f1 : (j : Int) < 8 := by omega
      have HPS := Lib.hid (show psOf xs r o (k + 1) = (psOf xs r o k).set j x by rw [psOf, hj, hx]; rfl)
      have hba : Below wr.heap.size wr (wr.alloc (.cells #[.int .i64 x.wi, .int .i64 x.ti, .int .i64 x.la, .int .i64 x.si, .bool x.ky, .bool x.en] 81)) := (Below.refl _ _).alloc (Nat.le_refl _) _
      have HBA := hbuf.out.below hba hgw
      obtain ⟨d48, d49, d50⟩ := HBA.cells
      obtain ⟨y, hy⟩ : ∃ y, (psOf xs r o k)[j]? = some y := ⟨_, List.getElem?_eq_getElem (by rw [psOf_len]; omega)⟩
      obtain ⟨y0, y1, y2, y3, y4, y5⟩ := HBA.at_ hy
      have zz0 := HBA.free (j * 6)
      have zz1 := HBA.free (j * 6 + 1)
      have zz2 := HBA.free (j * 6 + 2)
      have zz3 := HBA.free (j * 6 + 3)
      have zz4 := HBA.free (j * 6 + 4)
      have zz5 := HBA.free (j * 6 + 5)
      have hXp := Bk.new wr 81 #[.int .i64 x.wi, .int .i64 x.ti, .int .i64 x.la, .int .i64 x.si, .bool x.ky, .bool x.en]
      have HPUT := Lib.hid (RBk.dr (RBk.put (x := x) HBA (k := j) (by omega)))
      have hrl := hres.out.lt
      have HRES := Lib.hid ((((((((hres.out.below hba hrl).far (p := ⟨w.heap.size + 1 + 1, j * 6, none⟩) (by show w.heap.size + 1 ≠ w.heap.size + 1 + 1; omega) (.int .i64 x.wi)).far (p := ⟨w.heap.size + 1 + 1, j * 6 + 1, none⟩) (by show w.heap.size + 1 ≠ w.heap.size + 1 + 1; omega) (.int .i64 x.ti)).far (p := ⟨w.heap.size + 1 + 1, j * 6 + 2, none⟩) (by show w.heap.size + 1 ≠ w.heap.size + 1 + 1; omega) (.int .i64 x.la)).far (p := ⟨w.heap.size + 1 + 1, j * 6 + 3, none⟩) (by show w.heap.size + 1 ≠ w.heap.size + 1 + 1; omega) (.int .i64 x.si)).far (p := ⟨w.heap.size + 1 + 1, j * 6 + 4, none⟩) (by show w.heap.size + 1 ≠ w.heap.size + 1 + 1; omega) (.bool x.ky)).far (p := ⟨w.heap.size + 1 + 1, j * 6 + 5, none⟩) (by show w.heap.size + 1 ≠ w.heap.size + 1 + 1; omega) (.bool x.en)).drew)
      have HBEL := Lib.hid ((((((((hB.alloc hbs (.cells #[.int .i64 x.wi, .int .i64 x.ti, .int .i64 x.la, .int .i64 x.si, .bool x.ky, .bool x.en] 81)).setCell (p := ⟨w.heap.size + 1 + 1, j * 6, none⟩) (by show w.heap.size ≤ w.heap.size + 1 + 1; omega) (.int .i64 x.wi)).setCell (p := ⟨w.heap.size + 1 + 1, j * 6 + 1, none⟩) (by show w.heap.size ≤ w.heap.size + 1 + 1; omega) (.int .i64 x.ti)).setCell (p := ⟨w.heap.size + 1 + 1, j * 6 + 2, none⟩) (by show w.heap.size ≤ w.heap.size + 1 + 1; omega) (.int .i64 x.la)).setCell (p := ⟨w.heap.size + 1 + 1, j * 6 + 3, none⟩) (by show w.heap.size ≤ w.heap.size + 1 + 1; omega) (.int .i64 x.si)).setCell (p := ⟨w.heap.size + 1 + 1, j * 6 + 4, none⟩) (by show w.heap.size ≤ w.heap.size + 1 + 1; omega) (.bool x.ky)).setCell (p := ⟨w.heap.size + 1 + 1, j * 6 + 5, none⟩) (by show w.heap.size ≤ w.heap.size + 1 + 1; omega) (.bool x.en)).drew)
      have hne : w.heap.size + 1 + 1 ≠ wr.heap.size := by omega
      clear hcell hx hj hy HBA e48 e49 e50
      go_wp2_with fail
      clear c0 c1 c2 c3 c4 c5
      generalize (wr.alloc (.cells #[.int .i64 x.wi, .int .i64 x.ti, .int .i64 x.la, .int .i64 x.si, .bool x.ky, .bool x.en] 81)) = wa at *
      (try clear hXp_c0); (try clear hXp_f0)
      (try clear hXp_c1); (try clear hXp_f1)
      (try clear hXp_c2); (try clear hXp_f2)
      (try clear hXp_c3); (try clear hXp_f3)
      (try clear hXp_c4); (try clear hXp_f4)
      (try clear hXp_c5); (try clear hXp_f5)
      (try clear hXp_lt)
      have hXp_lt := hXp.lt; (try simp only [World.size_alloc] at hXp_lt)
      have hXp_c0 := hXp.cell 0; have hXp_f0 := hXp.frozen 0
      have hXp_c1 := hXp.cell 1; have hXp_f1 := hXp.frozen 1
      have hXp_c2 := hXp.cell 2; have hXp_f2 := hXp.frozen 2
      have hXp_c3 := hXp.cell 3; have hXp_f3 := hXp.frozen 3
      have hXp_c4 := hXp.cell 4; have hXp_f4 := hXp.frozen 4
      have hXp_c5 := hXp.cell 5; have hXp_f5 := hXp.frozen 5
      simp only [List.getElem?_toArray, List.getElem?_cons_zero, List.getElem?_cons_succ] at hXp_c0 hXp_c1 hXp_c2 hXp_c3 hXp_c4 hXp_c5
      refine wp_still_tail 10 (by kernel_rfl) (by kernel_rfl) ?_
      simp only [List.take_succ_cons, List.take_zero, List.drop_succ_cons, List.drop_zero]
      repeat still_step
      refine wpStill_nil ?_
      go_wp2
      go_roundw
      case rel => exact ⟨k + 1, by omega, by go_num, (by rw [HPS.out]; exact HPUT), HRES, HBEL.out⟩
      case measure => simp [intOf]; omega
    · have hkn : k = n := by omega
      subst hkn
      have HI := Lib.hid (show (Tryz.prog.info? 135).map (·.size) = some (bufC (psOf xs r o k) (r : Int) o c).length by rw [bufC_len (psOf_len xs r o k)]; exact buf_size)
      go_wp2_with (first | (refine wpList_load_bk rfl 135 _ rfl (w.heap.size + 1 + 1) 135 (bufC (psOf xs r o k) r o c) _ (by rfl) hbuf.out.2 Tryz.underlying135 rfl HI.out ?_) | (refine wpList_store_bk rfl 135 _ _ rfl (w.heap.size + 1) 135 _ (bufC (psOf xs r o k) r o c) (by rfl) (by rfl) hres.out (by rw [bufC_len (psOf_len xs r o k)]; rfl) (by rw [List.size_toArray]; exact HI.out) one_buf ?_; intro w4 hb4 ho4))
      have hB4 := hB.trans (ho4.below (by omega) hbs)
      have hld := run_load_bk (P := Tryz.prog) (ty := 135) hb4 Tryz.underlying135 rfl HI.out
      refine bodyPost_ret (v := .agg (bufC (psOf xs r o k) r o c).toArray) ?_ rfl ⟨rfl, hB4⟩
      simp [results, Tryz.results103, asAddr, Result.andThen, hld]
end Go.Proofs.YthbkmnladaneaaaGreatDoor
