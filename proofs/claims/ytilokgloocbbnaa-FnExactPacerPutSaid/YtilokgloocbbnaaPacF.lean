/-
  Queues by class: new ones, all packets of them, the first packet.
  Conditions: as each theorem states them.
-/
import Derived.StillTailTactics
import Derived.Test.YtilokgloocbbnaaRows
import Derived.Test.YtilokgloocbbnaaLib
import Derived.Test.YtilokgloocbbnaaOwn
import Derived.Test.YtilokgloocbbnaaBut
import Derived.Test.YtilokgloocbbnaaDraw
import Derived.Test.YtilokgloocbbnaaInv
import Derived.Test.YtilokgloocbbnaaSlots
import Derived.Test.YtilokgloocbbnaaApp
import Derived.Test.YtilokgloocbbnaaPac
import Derived.Test.YtilokgloocbbnaaPacB
import Derived.Test.YtilokgloocbbnaaPacP
import Derived.Test.YtilokgloocbbnaaPacE
import Derived.Outline
namespace Go.Proofs.Ytilokgloocbbnaa
open Go.RowKit
set_option linter.unusedVariables false
set_option linter.unusedSimpArgs false

theorem qs_start (w : World) : Qs 74 27 (w.alloc (.cells #[.slice none 0 0, .slice none 0 0, .slice none 0 0] 74)) w.heap.size (fun _ => .slice none 0 0) (cls []) :=
  ⟨Bk.new _ _ _, fun i hi => ⟨by simp [cls], .inl ⟨rfl, rfl⟩⟩, fun i j b _ _ _ h => by cases h⟩
theorem Qs.below_ {TQ TW : TypeId} {w w' : World} {bq : Nat} {v : Nat → Value} {q : Nat → List Wt} (h : Qs TQ TW w bq v q) (hb : Below w.heap.size w w') : Qs TQ TW w' bq v q :=
  ⟨h.1.below hb h.1.lt, fun i hi => own_below (h.2.1 i hi) hb, h.2.2⟩
theorem cls_len (xs : List Wt) (i : Nat) : (cls xs i).length ≤ xs.length := List.length_filter_le _ _

set_option maxHeartbeats 2000000 in
theorem nwq_any (A : Option Addr) (n c : Nat) (xs : List Wt) (w : World) (h : Wts w w.heap.size A n xs) (hn : n ≤ 1099511627776) (hcl : ∀ x ∈ xs, 0 ≤ x.cl ∧ x.cl ≤ 2) :
    Calls Try.prog 38 #[.slice A n c] w fun e w' => e = .returned (.pointer (some ⟨w.heap.size, 0, none⟩)) ∧ (∃ v, Qs 74 27 w' w.heap.size v (cls xs)) ∧ Below w.heap.size w w' := by
  have HL := Lib.hid h.len
  have HC := Lib.hid hcl
  clear hcl
  have HQ := Lib.hid (qs_start w)
  go_enter Try.func38, Try.ntmps38
  go_wp2
  go_loopw [8] (fun i wr => ∃ (k : Nat) (v : Nat → Value), k ≤ n ∧ i = .int .i64 k ∧ Qs 74 27 wr w.heap.size v (cls (xs.take k)) ∧ Below w.heap.size w wr) (fun i _ => n - (intOf i).toNat)
  case atStart => exact ⟨0, _, by omega, rfl, HQ.out, (by repeat (first | exact Below.refl _ _ | assumption | refine Below.setCell ?_ (by first | omega | (simp; done) | (simp; omega)) _ | refine Below.alloc ?_ (by first | omega | (simp; done) | (simp; omega)) _ | refine Below.drew ?_ | refine Below.drewN' ?_ _ | refine Below.trans ?_ (Below.mono (by assumption) (by first | omega | (simp; done) | (simp; omega)))))⟩
  case round =>
    obtain ⟨k, v, hk, rfl, hq, hB⟩ := hrel
    by_cases hlt : k < n
    · have e0 : decide (k < n) = true := by simpa using hlt
      obtain ⟨b, off, rfl, hb, hcell⟩ := h.addr (by omega)
      obtain ⟨x, hx⟩ : ∃ x, xs[k]? = some x := ⟨_, List.getElem?_eq_getElem (by rw [HL.out]; exact hlt)⟩
      obtain ⟨c0, c1, c2⟩ := hcell k x hx
      replace c0 := (hB.cell (p := ⟨b, off + k * 3, none⟩) hb).trans c0
      replace c1 := (hB.cell (p := ⟨b, off + k * 3 + 1, none⟩) hb).trans c1
      replace c2 := (hB.cell (p := ⟨b, off + k * 3 + 2, none⟩) hb).trans c2
      have hxm := HC.out x (List.mem_of_getElem? hx)
      obtain ⟨i, hi⟩ := Int.eq_ofNat_of_zero_le hxm.1
      have hi3 : i < 3 := by omega
      have hlen : (cls (xs.take k) i).length ≤ 1099511627776 := by have h1 := cls_len (xs.take k) i; rw [List.length_take] at h1; omega
      have HX := Lib.hid hx
      have HI := Lib.hid hi
      have HLEN := Lib.hid hlen
      clear hcell hx hxm hi hlen
      have HQ2 := Lib.hid (hq.below_ ((Below.refl wr.heap.size wr).alloc (Nat.le_refl _) (.cells #[.int .i64 x.id, .int .i64 x.cl, .int .i64 x.sz] 27)))
      have hql : w.heap.size < wr.heap.size := hq.1.lt
      clear hq
      go_wp2_with fail
      refine (put_any i hi3 x HI.out _ _ _ _ HQ2.out HLEN.out).mono ?_
      rintro y w2 ⟨rfl, ⟨v', hq'⟩, hb2⟩
      have hB2 : Below w.heap.size w w2 := (hB.alloc hB.size _).trans hb2
      have e : updQ (cls (xs.take k)) i x = cls (xs.take (k + 1)) := by
        have hlt' : k < xs.length := (List.getElem?_eq_some_iff.1 HX.out).1
        have hxx : xs[k] = x := (List.getElem?_eq_some_iff.1 HX.out).2
        funext j
        rw [List.take_succ_eq_append_getElem hlt', cls_snoc, hxx]
        unfold updQ
        by_cases hj : j = i
        · subst hj
          rw [if_pos rfl, if_pos HI.out]
        · rw [if_neg hj, if_neg]
          rw [HI.out]
          omega
      rw [e] at hq'
      have HQ3 := Lib.hid hq'
      clear hq' e hb2
      go_wp2
      go_roundw
      case rel => exact ⟨k + 1, v', by omega, by go_num, HQ3.out, hB2⟩
      case measure => simp [intOf]; omega
    · have hkn : k = n := by omega
      subst hkn
      have hq' : Qs 74 27 wr w.heap.size v (cls xs) := by
        rw [List.take_of_length_le (by rw [HL.out]; exact Nat.le_refl _)] at hq
        exact hq
      have HQ2 := Lib.hid hq'
      clear hq hq'
      go_wp2
      go_ret
      exact ⟨rfl, ⟨v, HQ2.out⟩, hB⟩

/-- Queues that are read: each a slice below block B, not in block bq. -/
def QR (TQ : TypeId) (w : World) (bq B : Nat) (v : Nat → Value) (q : Nat → List Wt) : Prop :=
  Bk w bq TQ #[v 0, v 1, v 2] ∧ ∀ i, i < 3 → ∃ A c, v i = .slice A (q i).length c ∧ (q i).length ≤ c ∧ c ≤ maxLen ∧ Wts w B A (q i).length (q i) ∧ ∀ b o, A = some ⟨b, o, none⟩ → b ≠ bq
theorem Qs.qr {TQ TW : TypeId} {w : World} {bq : Nat} {v : Nat → Value} {q : Nat → List Wt} (h : Qs TQ TW w bq v q) : QR TQ w bq w.heap.size v q := by
  refine ⟨h.1, fun i hi => ?_⟩
  obtain ⟨A, c, e, h1, h2, h3⟩ := own_shape (h.2.1 i hi)
  refine ⟨A, c, e, h1, h2, h3, fun b o hA => ?_⟩
  have := ((h.2.1 i hi).lt b (by rw [e, hA]; rfl)).1
  omega
theorem QR.below_ {TQ : TypeId} {w w' : World} {bq B : Nat} {v : Nat → Value} {q : Nat → List Wt} (h : QR TQ w bq B v q) (hb : Below w.heap.size w w') (hB : B ≤ w.heap.size) : QR TQ w' bq B v q :=
  ⟨h.1.below hb h.1.lt, fun i hi => by
    obtain ⟨A, c, e, h1, h2, h3, h4⟩ := h.2 i hi
    exact ⟨A, c, e, h1, h2, h3.below (hb.mono hB), h4⟩⟩

/-- The first k queues, joined. -/
def joinTo (q : Nat → List Wt) : Nat → List Wt
  | 0 => []
  | k + 1 => joinTo q k ++ q k
theorem joinTo_three (q : Nat → List Wt) : joinTo q 3 = join q := by simp [joinTo, join]
theorem joinTo_len (q : Nat → List Wt) (k : Nat) (hk : k ≤ 3) : (joinTo q k).length ≤ (join q).length := by
  have : k = 0 ∨ k = 1 ∨ k = 2 ∨ k = 3 := by omega
  rcases this with rfl | rfl | rfl | rfl <;> simp [joinTo, join] <;> omega

set_option maxHeartbeats 2000000 in
theorem all_any (w : World) (bq : Nat) (v : Nat → Value) (q : Nat → List Wt) (h : QR 74 w bq w.heap.size v q) (hn : (join q).length ≤ 1099511627776) :
    Calls Try.prog 40 #[.pointer (some ⟨bq, 0, none⟩)] w fun e w' => ∃ u, e = .returned u ∧ w'.ownsRow w.heap.size 27 3 u (join q).length ((join q).flatMap Wt.c) ∧ Below w.heap.size w w' := by
  obtain ⟨i0, hi0, hz0, hz1, hz2⟩ := info_parts wt_info
  obtain ⟨hQ, hR⟩ := h
  have hql := hQ.lt
  have HR := Lib.hid hR
  have HN := Lib.hid hn
  clear hR hn
  have hown0 := own_empty w w.heap.size 27 3 (Nat.le_refl _)
  have HO0 := Lib.hid hown0
  clear hown0
  go_enter Try.func40, Try.ntmps40
  go_wp2
  go_loopw [3, 9] (fun u i wr => ∃ k : Nat, k ≤ 3 ∧ i = .int .i64 k ∧ wr.ownsRow w.heap.size 27 3 u (joinTo q k).length ((joinTo q k).flatMap Wt.c) ∧ Below w.heap.size w wr) (fun _ i _ => 3 - (intOf i).toNat)
  case atStart => exact ⟨0, by omega, rfl, HO0.out, (by repeat (first | exact Below.refl _ _ | assumption | refine Below.setCell ?_ (by first | omega | (simp; done) | (simp; omega)) _ | refine Below.alloc ?_ (by first | omega | (simp; done) | (simp; omega)) _ | refine Below.drew ?_ | refine Below.drewN' ?_ _ | refine Below.trans ?_ (Below.mono (by assumption) (by first | omega | (simp; done) | (simp; omega)))))⟩
  case round =>
    obtain ⟨k, hk, rfl, hown, hB⟩ := hrel
    by_cases hlt : k < 3
    · have hi0' : (0 : Int) ≤ (k : Int) := Int.natCast_nonneg _
      have hi1 : (k : Int) < 3 := by omega
      obtain ⟨A, c, hv, h1, h2, h3, h4⟩ := HR.out k hlt
      have hcell : wr.cell? ⟨bq, k, none⟩ = some (v k) := by
        rw [(hQ.below hB hql).cell k]
        rcases k with _ | _ | _ | k <;> first | rfl | omega
      rw [hv] at hcell
      have hsl := h3.below hB
      have hlen := HN.out
      have hle := joinTo_len q (k + 1) (by omega)
      have hsum : (joinTo q (k + 1)).length = (joinTo q k).length + (q k).length := by simp [joinTo]
      have happ : (joinTo q (k + 1)).flatMap Wt.c = (joinTo q k).flatMap Wt.c ++ (q k).flatMap Wt.c := by simp [joinTo]
      have HS := Lib.hid hsum
      have HA := Lib.hid happ
      have HR2 := Lib.hid hsl
      have HOW := Lib.hid hown
      have HV := Lib.hid hv
      clear hsum happ hsl h3 h4 hown hv
      have hb := hB.size
      go_wp2_with (at_builtin; refine wpList_app _ rfl _ _ 23 rfl w.heap.size 27 i0 (.agg #[.int .i64 0, .int .i64 0, .int .i64 0]) 3 24 Try.underlying23 hi0 hz0 hz1 hz2 rfl (by omega) _ (joinTo q k).length _ rfl HOW.out w.heap.size A (q k).length c _ rfl HR2.out (one_wts _) (by unfold maxLen; have := HS.out; omega) (by have := HS.out; omega) hb ?_; intro v2 w2 hown2 hgrow hat)
      rw [← HS.out, ← HA.out] at hown2
      have HO2 := Lib.hid hown2
      have hB2 : Below w.heap.size w w2 := Below.grown_own hB hgrow HOW.out (Nat.le_refl _) hb
      clear hown2 hgrow hat
      go_wp2
      go_roundw
      case rel => exact ⟨k + 1, by omega, by go_num, HO2.out, hB2⟩
      case measure => simp [intOf]; omega
    · have hkn : k = 3 := by omega
      subst hkn
      rw [joinTo_three] at hown
      have HO := Lib.hid hown
      clear hown
      go_wp2
      go_ret
      exact ⟨_, rfl, HO.out, hB⟩
end Go.Proofs.Ytilokgloocbbnaa
