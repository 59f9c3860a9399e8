/-
  The tree of shares: newShareTree.
  Conditions: as each theorem states them.
-/
import Derived.Test.YthkoafcbcnobhaaTreeF
import Derived.Deep.RegionHeld3
namespace Go.Proofs.Ythkoafcbcnobhaa
open Go.RowKit
set_option linter.unusedVariables false
set_option linter.unusedSimpArgs false

/-- A tree of the first k demands, in new memory. -/
def Grown (T : TypeId) (B : Nat) (xs : List Dm) (ls : List Int) (k : Nat) (w : World) (t : Tr) : Prop := TM T w t ∧ t.ok ∧ t.bs.Nodup ∧ (∀ e, e ∈ t.els ↔ ∃ j, j < k ∧ e = eOf xs ls j) ∧ ∀ b ∈ t.bs, B ≤ b
theorem Grown.zero (T : TypeId) (B : Nat) (xs : List Dm) (ls : List Int) (w : World) : Grown T B xs ls 0 w .nil := ⟨trivial, trivial, by simp [Tr.bs], fun e => ⟨fun h => by simp [Tr.els] at h, fun ⟨j, hj, _⟩ => absurd hj (by omega)⟩, fun b h => by simp [Tr.bs] at h⟩
theorem Grown.step {T : TypeId} {B k g : Nat} {xs : List Dm} {ls : List Int} {w w' : World} {t : Tr} (h : Grown T B xs ls k w t) (hg : B ≤ g) (hgt : g ∉ t.bs) (hm : TM T w' (t.ins g (eOf xs ls k))) : Grown T B xs ls (k + 1) w' (t.ins g (eOf xs ls k)) := by
  obtain ⟨h1, h2, h3, h4, h5⟩ := h
  refine ⟨hm, Tr.ok_ins _ _ _ h2, Tr.nodup_ins _ _ _ h3 hgt, fun e => ?_, fun b hb => ?_⟩
  · rw [Tr.mem_ins, h4]
    constructor
    · rintro (rfl | ⟨j, hj, rfl⟩)
      · exact ⟨k, by omega, rfl⟩
      · exact ⟨j, by omega, rfl⟩
    · rintro ⟨j, hj, rfl⟩
      by_cases e : j = k
      · subst e; exact .inl rfl
      · exact .inr ⟨j, by omega, rfl⟩
  · rcases (Tr.bs_ins _ _ _ b).1 hb with rfl | hb
    · exact hg
    · exact h5 b hb
/-- A tree comes back. -/
def TreeP (T : TypeId) (xs : List Dm) (ls : List Int) (n : Nat) (w : World) (e : Ending) (w' : World) : Prop := ∃ t : Tr, e = .returned t.p ∧ Grown T w.heap.size xs ls n w' t ∧ Below w.heap.size w w'

set_option maxHeartbeats 4000000 in
theorem newTree_any (A A' : Option Addr) (n c c' : Nat) (xs : List Dm) (ls : List Int) (w : World) (h : Dms w w.heap.size A n xs) (h' : Ints w w.heap.size A' n ls) (hn : n ≤ 6) :
    Calls Try.prog 46 #[.slice A n c, .slice A' n c'] w (TreeP 74 xs ls n w) := by
  have HL := Lib.hid h.len
  go_enter Try.func46, Try.ntmps46
  go_wp2
  go_loopw [5, 10] (fun q i wr => ∃ (k : Nat) (t : Tr), k ≤ n ∧ i = .int .i64 k ∧ q = t.p ∧ Hid (Grown 74 w.heap.size xs ls k wr t) ∧ Below w.heap.size w wr) (fun _ i _ => n - (intOf i).toNat)
  case atStart => exact ⟨0, .nil, by omega, rfl, rfl, Grown.zero _ _ _ _ _, (by repeat (first | exact Below.refl _ _ | assumption | refine Below.setCell ?_ (by first | omega | (simp; done) | (simp; omega)) _ | refine Below.alloc ?_ (by first | omega | (simp; done) | (simp; omega)) _ | refine Below.drew ?_ | refine Below.drewN' ?_ _ | refine Below.trans ?_ (Below.mono (by assumption) (by first | omega | (simp; done) | (simp; omega)))))⟩
  case round =>
    obtain ⟨k, t, hk, rfl, rfl, hG, hB⟩ := hrel
    by_cases hlt : k < n
    · have e0 : decide (k < n) = true := by simpa using hlt
      obtain ⟨b, off, rfl, hb, hcell⟩ := h.addr (by omega)
      obtain ⟨b', off', rfl, hb', hcell'⟩ := h'.at_ (by omega)
      obtain ⟨x, hx⟩ : ∃ x, xs[k]? = some x := ⟨_, List.getElem?_eq_getElem (by rw [HL.out]; exact hlt)⟩
      obtain ⟨c0, c1, c2, c3⟩ := hcell k x hx
      replace c0 := (hB.cell (p := ⟨b, off + k * 4, none⟩) hb).trans c0
      replace c1 := (hB.cell (p := ⟨b, off + k * 4 + 1, none⟩) hb).trans c1
      replace c2 := (hB.cell (p := ⟨b, off + k * 4 + 2, none⟩) hb).trans c2
      replace c3 := (hB.cell (p := ⟨b, off + k * 4 + 3, none⟩) hb).trans c3
      have cl := (hB.cell (p := ⟨b', off' + k, none⟩) hb').trans (hcell' k hlt)
      have hs := hB.size
      have hbr : b < wr.heap.size := by omega
      have hbr' : b' < wr.heap.size := by omega
      have hei := Lib.hid (show eOf xs ls k = ⟨k, lX ls k, x.we⟩ by unfold eOf; rw [dX_of hx])
      have hlk := Lib.hid (show ls[k]?.getD 0 = lX ls k from rfl)
      rw [hlk.out] at cl
      generalize lX ls k = l at *
      have hD := Bk.new wr 46 #[.int .i64 x.we, .int .i64 x.lo, .int .i64 x.mi, .int .i64 x.hi]
      clear hcell hcell' hx
      go_wp2_with fail
      have hBa : Below wr.heap.size wr (wr.alloc (.cells #[.int .i64 x.we, .int .i64 x.lo, .int .i64 x.mi, .int .i64 x.hi] 46)) := (Below.refl _ _).alloc (Nat.le_refl _) _
      have cl2 := (hBa.cell (p := ⟨b', off' + k, none⟩) hbr').trans cl
      have hsa : wr.heap.size < (wr.alloc (.cells #[.int .i64 x.we, .int .i64 x.lo, .int .i64 x.mi, .int .i64 x.hi] 46)).heap.size := by simp
      clear c0 c1 c2 c3 cl
      have hDl := hD.lt
      have hD0 := hD.cell 0
      simp only [List.getElem?_toArray, List.getElem?_cons_zero, List.getElem?_cons_succ] at hD0
      have hbs' : b' < (wr.alloc (.cells #[.int .i64 x.we, .int .i64 x.lo, .int .i64 x.mi, .int .i64 x.hi] 46)).heap.size := by omega
      obtain ⟨g1, g2, g3, g4, g5⟩ := hG.out
      have HT5 := Lib.hid (fun k hk => TM.lt g1 k hk)
      have hsw : wr.heap.size < (wr.alloc (.cells #[.int .i64 x.we, .int .i64 x.lo, .int .i64 x.mi, .int .i64 x.hi] 46)).heap.size := hsa
      have HTM := Lib.hid (TM.new g1 hBa)
      have HN := Lib.hid g3
      have HG5 := Lib.hid g5
      have hBw := hB.trans (hBa.mono hs)
      clear g1 g2 g3 g4 g5 hD hsa
      have HBA := Lib.hid hBw
      clear hBw hBa
      generalize (wr.alloc (.cells #[.int .i64 x.we, .int .i64 x.lo, .int .i64 x.mi, .int .i64 x.hi] 46)) = wa at *
      have hgt : wa.heap.size ∉ t.bs := fun hk => by have := HT5.out _ hk; omega
      have hnew : Below wa.heap.size wa (wa.drew.alloc (.cells #[.int .i64 k, .int .i64 l, .int .i64 x.we, .pointer none, .pointer none] 74)) := Below.alloc (Below.drew (Below.refl _ _)) (Nat.le_refl _) _
      have HW := Lib.hid (with_any wa.heap.size ⟨k, l, x.we⟩ t (wa.drew.alloc (.cells #[.int .i64 k, .int .i64 l, .int .i64 x.we, .pointer none, .pointer none] 74)) (TM.new HTM.out hnew) (Bk.new wa.drew _ _) hgt HN.out)
      have HNB := Lib.hid hnew
      have HGT := Lib.hid hgt
      have e1 : ¬ wr.heap.size ∈ t.bs := fun hk => by have := HT5.out _ hk; omega
      have e2 : ¬ b' ∈ t.bs := fun hk => by have := HG5.out _ hk; omega
      have E1 := Lib.hid e1
      have E2 := Lib.hid e2
      have D0 := Lib.hid hD0
      have CL := Lib.hid cl2
      clear hnew hgt e1 e2
      go_region_held3 (fun w' => w'.cell? ⟨wr.heap.size, 0, none⟩ = some (.int .i64 x.we) ∧ w'.cell? ⟨b', off' + k, none⟩ = some (.int .i64 l)) ((first | go_keep | (repeat' (first | with_reducible assumption | apply And.intro | rw [World.cell?_setCell_other _ _ _ _ (fun e => by injection e; omega)]))))
        ((go_at_call 52; refine HW.out.mono ?_; rintro e w2 ⟨rfl, hm2, hb2⟩; have d0 := hb2.cell ((HNB.out.cell (p := ⟨wr.heap.size, 0, none⟩) hsw).trans D0.out) E1.out; have d1 := hb2.cell ((HNB.out.cell (p := ⟨b', off' + k, none⟩) hbs').trans CL.out) E2.out; have HM2 := Lib.hid hm2; have HB2 := Lib.hid hb2; clear hm2 hb2))
      have hBf : Below w.heap.size w w2 := (HBA.out.trans (HNB.out.mono HBA.out.size)).trans (HB2.out.below (fun k hk => HG5.out k hk) (Nat.le_trans HBA.out.size HNB.out.size))
      have HGF := Lib.hid (show Grown 74 w.heap.size xs ls (k + 1) w2 (t.ins wa.heap.size ⟨k, l, x.we⟩) by
        have hst := Grown.step (g := wa.heap.size) (w' := w2) hG.out (by have := HBA.out.size; omega) HGT.out (by rw [hei.out]; exact HM2.out)
        rw [hei.out] at hst
        exact hst)
      clear d0 d1
      go_wp2
      go_roundw
      case rel => exact ⟨k + 1, _, by omega, by go_num, rfl, HGF.out, hBf⟩
      case measure => simp [intOf]; omega
    · have hkn : k = n := by omega
      subst hkn
      go_wp2
      go_ret
      exact ⟨t, rfl, hG.out, hB⟩
end Go.Proofs.Ythkoafcbcnobhaa
