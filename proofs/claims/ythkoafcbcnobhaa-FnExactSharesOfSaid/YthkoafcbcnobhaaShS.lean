/-
  SharesOf of the reference.
  Conditions: as each theorem states them.
-/
import Derived.Test.YthkoafcbcnobhaaNext
import Derived.Test.YthkoafcbcnobhaaApp
import Derived.Test.YthkoafcbcnobhaaSet
namespace Go.Proofs.Ythkoafcbcnobhaa
open Go.RowKit
set_option linter.unusedVariables false
set_option linter.unusedSimpArgs false

theorem nxt_fit (xs : List Dm) (ls : List Int) (left : Int) : ∀ k : Nat, 0 ≤ nxt xs ls left k → fit xs ls left (nxt xs ls left k).toNat
  | 0, h => by simp [nxt] at h
  | k + 1, h => by
    have ih := nxt_fit xs ls left k
    unfold nxt at h ⊢
    split
    · rename_i hc
      simpa using hc.1
    · rename_i hc
      rw [if_neg hc] at h
      exact ih h
/-- One round: the demand that is next gets one layer more. -/
def stS (xs : List Dm) (bud : Int) (ls : List Int) : List Int :=
  if 0 ≤ nxt xs ls (bud - sumTo xs ls ls.length) ls.length then ls.set (nxt xs ls (bud - sumTo xs ls ls.length) ls.length).toNat (lX ls (nxt xs ls (bud - sumTo xs ls ls.length) ls.length).toNat + 1) else ls
def shR (xs : List Dm) (bud : Int) : Nat → List Int
  | 0 => List.replicate xs.length (-1)
  | k + 1 => stS xs bud (shR xs bud k)
theorem stS_len (xs : List Dm) (bud : Int) (ls : List Int) : (stS xs bud ls).length = ls.length := by unfold stS; split <;> simp
theorem shR_len (xs : List Dm) (bud : Int) : ∀ k, (shR xs bud k).length = xs.length
  | 0 => by simp [shR]
  | k + 1 => by rw [shR, stS_len, shR_len xs bud k]
theorem lX_set {ls : List Int} {j k : Nat} {z : Int} (hj : j < ls.length) : lX (ls.set j z) k = if j = k then z else lX ls k := by
  unfold lX
  rw [List.getElem?_set]
  by_cases e : j = k
  · subst e; simp [hj]
  · simp [e]
theorem stS_ys {xs : List Dm} {bud : Int} {ls : List Int} (h : ysTo ls ls.length) : ysTo (stS xs bud ls) ls.length := by
  unfold stS
  split
  · rename_i h0
    have hf := nxt_fit _ _ _ _ h0
    have hr := nxt_range xs ls (bud - sumTo xs ls ls.length) ls.length
    generalize nxt xs ls (bud - sumTo xs ls ls.length) ls.length = o at *
    intro j hj
    rw [lX_set (by omega)]
    split
    · have h1 := h o.toNat (by omega)
      have h2 := hf.1
      omega
    · exact h j hj
  · exact h
theorem shR_ys (xs : List Dm) (bud : Int) : ∀ k, ysTo (shR xs bud k) xs.length
  | 0 => fun j hj => by
    have : lX (shR xs bud 0) j = -1 := by unfold lX shR; rw [List.getElem?_replicate, if_pos hj]; rfl
    omega
  | k + 1 => by
    have h1 := shR_len xs bud k
    have h := stS_ys (xs := xs) (bud := bud) (ls := shR xs bud k) (by rw [h1]; exact shR_ys xs bud k)
    rw [h1] at h
    exact h
theorem stS_skip {xs : List Dm} {bud s o : Int} {ls : List Int} {n : Nat} (hn : ls.length = n) (hs : sumTo xs ls n = s) (ho : nxt xs ls (bud - s) n = o) (h0 : o < 0) : stS xs bud ls = ls := by
  subst hn hs ho
  unfold stS
  rw [if_neg (by omega)]
theorem stS_take {xs : List Dm} {bud s z : Int} {j : Nat} {ls : List Int} {n : Nat} (hn : ls.length = n) (hs : sumTo xs ls n = s) (ho : nxt xs ls (bud - s) n = (j : Int)) (hz : lX ls j = z) : stS xs bud ls = ls.set j (z + 1) := by
  subst hn hs
  unfold stS
  rw [ho, if_pos (by omega), Int.toNat_natCast, hz]

/-- 'SharesOf' takes these arguments. -/
def shIn (xs : List Dm) (bud : Int) : Prop := lOk xs ∧ 0 ≤ bud ∧ bud ≤ 999999
instance (xs : List Dm) (bud : Int) : Decidable (shIn xs bud) := by unfold shIn; infer_instance
def shK (xs : List Dm) (bud : Int) : Bool := decide (shIn xs bud)
def shL (xs : List Dm) (bud : Int) : List Int := if shIn xs bud then shR xs bud (3 * xs.length) else []
/-- What 'SharesOf' answers: a slice of the call's own. -/
def ShPost (T : TypeId) (xs : List Dm) (bud : Int) (w : World) (e : Ending) (w' : World) : Prop :=
  ∃ v, e = .returned (.tuple #[v, .bool (shK xs bud)]) ∧ w'.ownsRow w.heap.size T 1 v (shL xs bud).length ((shL xs bud).map (Value.int .i64)) ∧ Below w.heap.size w w'

theorem ret_vb {v : Value} {a b : Bool} (h : a = b) : Ending.returned (.tuple #[v, .bool a]) = .returned (.tuple #[v, .bool b]) := by rw [h]
theorem int1_info : (Try.prog.info? 3).map (fun i => (i.zero, i.size, i.bytes)) = some (some (.int .i64 0), 1, 8) := by kernel_rfl

set_option maxHeartbeats 4000000 in
theorem sshares_any (A : Option Addr) (n c : Nat) (xs : List Dm) (bud : Int) (w : World) (h : Dms w w.heap.size A n xs) (hn : n ≤ 1099511627776) :
    Calls Try.prog 26 #[.slice A n c, .int .i64 bud] w (ShPost 3 xs bud w) := by
  have HL := Lib.hid h.len
  have hall := (Below.refl w.heap.size w).alloc (Nat.le_refl _) (.cells #[] 3)
  have hv := sdv_any A n c xs _ ((h.below hall).more hall.size) hn
  have HE := Lib.hid (own_empty w w.heap.size 3 1 (Nat.le_refl _))
  by_cases q : lOk xs
  · rw [show lB xs = true from decide_eq_true q] at hv
    have hn6 : n ≤ 6 := by have := q.1; rw [HL.out] at this; exact this
    have hv2 := fun w => l6In_any bud 0 999999 w
    by_cases hb : 0 ≤ bud ∧ bud ≤ 999999
    · rw [show inB bud 0 999999 = true from decide_eq_true hb] at hv2
      have key : Hid (shK xs bud = true ∧ shL xs bud = shR xs bud (3 * n)) := ⟨decide_eq_true ⟨q, hb⟩, by rw [← HL.out]; exact if_pos ⟨q, hb⟩⟩
      have HQ := Lib.hid q
      clear q
      obtain ⟨i0, hi0, hz0, hz1, hz2⟩ := info_parts int1_info
      go_enter Try.func26, Try.ntmps26
      go_wp2_with (first | (go_at_call 48; refine hv.mono ?_; rintro e w1 ⟨rfl, hb1⟩; have hE1 := own_below HE.out hb1) | (go_at_call 40; refine (hv2 _).mono ?_; rintro e w2 ⟨rfl, hb2⟩; have hE2 := own_below hE1 hb2))
      have hB2 : Below w.heap.size w w2 := (hall.trans (hb1.mono hall.size)).trans (hb2.mono (hall.trans (hb1.mono hall.size)).size)
      clear hb1 hb2 hE1 HE hv hv2 hall
      go_loopw [6, 7] (fun v i wr => ∃ (k : Nat), k ≤ n ∧ i = .int .i64 k ∧ wr.ownsRow w.heap.size 3 1 v k ((List.replicate k (-1)).map (Value.int .i64)) ∧ Below w.heap.size w wr) (fun _ i _ => n - (intOf i).toNat)
      case atStart => exact ⟨0, by omega, rfl, by simpa using hE2, hB2⟩
      case round =>
        obtain ⟨k, hk, rfl, hown, hB⟩ := hrel
        by_cases hlt : k < n
        · have e0 : decide (k < n) = true := by simpa using hlt
          have HOW := Lib.hid hown
          have hbs := hB.size
          have HNB := Lib.hid (show Sl (wr.alloc (.cells #[.int .i64 (-1)] 3)) (wr.heap.size + 1) 1 (some ⟨wr.heap.size, 0, none⟩) 1 [.int .i64 (-1)] from ⟨rfl, fun _ => ⟨wr.heap.size, 0, rfl, by omega, fun j u hu => by
            rw [Nat.zero_add, (Bk.new wr 3 #[.int .i64 (-1)]).cell j]; simpa using hu⟩⟩)
          clear hown
          go_wp2_with (at_builtin; refine wpList_app _ rfl _ _ 23 rfl w.heap.size 3 i0 (.int .i64 0) 1 8 Try.underlying23 hi0 hz0 hz1 hz2 rfl (by omega) _ k _ rfl (HOW.out.alloc _) (wr.heap.size + 1) (some ⟨wr.heap.size, 0, none⟩) 1 1 _ rfl HNB.out (by intro u hu; simp at hu; subst hu; rfl) (by unfold maxLen; omega) (by omega) (by simp; omega) ?_; intro v2 w3 hown2 hgrow hat)
          have hB3 : Below w.heap.size w w3 := Below.grown_own (hB.alloc hbs (.cells #[.int .i64 (-1)] 3)) hgrow (HOW.out.alloc _) (Nat.le_refl _) (by simp; omega)
          have HO2 := Lib.hid (show w3.ownsRow w.heap.size 3 1 v2 (k + 1) ((List.replicate (k + 1) (-1)).map (Value.int .i64)) by rw [List.replicate_succ', List.map_append]; exact hown2)
          clear hown2 hgrow hat
          go_wp2
          go_roundw
          case rel => exact ⟨k + 1, by omega, by go_num, HO2.out, hB3⟩
          case measure => simp [intOf]; omega
        · have hkn : k = n := by omega
          subst hkn
          rw [show (List.replicate k (-1)) = shR xs bud 0 by rw [shR, HL.out]] at hown
          obtain ⟨A2, c2, rfl, hnc2, hcm2, -⟩ := own_shape hown
          have HOW := Lib.hid hown
          have hB4 := hB
          clear hown
          go_wp2
          go_loopw [8] (fun i wr => ∃ (m : Nat), m ≤ 3 * k ∧ i = .int .i64 m ∧ wr.ownsRow w.heap.size 3 1 (.slice A2 k c2) k ((shR xs bud m).map (Value.int .i64)) ∧ Below w.heap.size w wr) (fun i _ => 3 * k - (intOf i).toNat)
          case atStart => exact ⟨0, by omega, rfl, HOW.out, hB4⟩
          case round =>
            obtain ⟨m, hm, rfl, hown, hB⟩ := hrel
            clear HOW hB4
            have hbs := hB.size
            by_cases hlt2 : m < 3 * k
            · have e2 : decide ((m : Int) < 3 * (k : Int)) = true := by simp; omega
              obtain ⟨g, cap, e, hg, hgl, -, -⟩ := own_head hown (by omega)
              injection e with e1 e3 e4
              subst e1 e4
              have hI : Ints wr wr.heap.size (some ⟨g, 0, none⟩) k (shR xs bud m) := Sl.of_own hown
              obtain ⟨s, hs⟩ : ∃ s, sumTo xs (shR xs bud m) k = s := ⟨_, rfl⟩
              have hsb := sum_bd6 HQ.out (shR xs bud m) (k := k) (by rw [HL.out]; exact Nat.le_refl _)
              have hv3 := l23Sum_any A (some ⟨g, 0, none⟩) k c c2 xs (shR xs bud m) wr ((h.below hB).more hbs) hI HQ.out
              rw [hs] at hsb hv3
              have hyy := shR_ys xs bud m
              rw [HL.out] at hyy
              have hv4 := fun w hd hi => l23Next_any A (some ⟨g, 0, none⟩) k c c2 xs (shR xs bud m) (bud - s) w hd hi HQ.out hyy
              obtain ⟨o, ho⟩ : ∃ o, nxt xs (shR xs bud m) (bud - s) k = o := ⟨_, rfl⟩
              have hor := nxt_range xs (shR xs bud m) (bud - s) k
              have hfit := nxt_fit xs (shR xs bud m) (bud - s) k
              rw [ho] at hv4 hor hfit
              have hsl : (shR xs bud m).length = k := by rw [shR_len, HL.out]
              by_cases h0 : o < 0
              · have e3 : decide (0 ≤ o) = false := by simp; omega
                have hnx := Lib.hid (show shR xs bud (m + 1) = shR xs bud m from stS_skip hsl hs ho h0)
                have HV4 := Lib.hid hv4
                have HOW := Lib.hid hown
                clear hv4 hs ho hfit hyy hown hI hsl
                go_wp2_with (first | (go_at_call 32; refine hv3.mono ?_; rintro e w3 ⟨rfl, hb3⟩) | (go_at_call 41; refine (HV4.out _ ((h.below (hB.trans (hb3.mono hbs))).more (hB.trans (hb3.mono hbs)).size) (Sl.of_own (own_below HOW.out hb3))).mono ?_; rintro e w4 ⟨rfl, hb4⟩))
                go_roundw
                case rel => exact ⟨m + 1, by omega, by go_num, by rw [hnx.out]; exact own_below (own_below HOW.out hb3) hb4, (hB.trans (hb3.mono hbs)).trans (hb4.mono (hB.trans (hb3.mono hbs)).size)⟩
                case measure => simp [intOf]; omega
              · obtain ⟨j, rfl⟩ := Int.eq_ofNat_of_zero_le (show 0 ≤ o by omega)
                have e3 : decide (0 ≤ (j : Int)) = true := by simp
                have hj : j < k := by omega
                obtain ⟨z, hz⟩ : ∃ z, lX (shR xs bud m) j = z := ⟨_, rfl⟩
                have hzb := hyy j hj
                have hzf := (hfit (by omega)).1
                rw [Int.toNat_natCast] at hzf
                rw [hz] at hzb hzf
                have hnx := Lib.hid (show shR xs bud (m + 1) = (shR xs bud m).set j (z + 1) from stS_take hsl hs ho hz)
                have hzc : ((shR xs bud m).map (Value.int .i64))[j]? = some (.int .i64 z) := by
                  rw [List.getElem?_map]
                  unfold lX at hz
                  rw [List.getElem?_eq_getElem (by omega)] at hz ⊢
                  rw [← hz]
                  rfl
                have HZC := Lib.hid hzc
                have HV4 := Lib.hid hv4
                have HOW := Lib.hid hown
                clear hv4 hs ho hfit hyy hown hI hsl hz hzc
                go_wp2_with (first | (go_at_call 32; refine hv3.mono ?_; rintro e w3 ⟨rfl, hb3⟩) | (go_at_call 41; refine (HV4.out _ ((h.below (hB.trans (hb3.mono hbs))).more (hB.trans (hb3.mono hbs)).size) (Sl.of_own (own_below HOW.out hb3))).mono ?_; rintro e w4 ⟨rfl, hb4⟩; have hO4 := own_below (own_below HOW.out hb3) hb4; have hc4 := own_cell hO4 HZC.out; have hf4 := own_free hO4 j; have HO4 := Lib.hid hO4; clear hO4))
                have hB5 := (hB.trans (hb3.mono hbs)).trans (hb4.mono (hB.trans (hb3.mono hbs)).size)
                go_roundw
                case rel => exact ⟨m + 1, by omega, by go_num, by rw [hnx.out, List.map_set]; exact own_set HO4.out _, hB5.setCell (p := ⟨g, j, none⟩) hg _⟩
                case measure => simp [intOf]; omega
            · have e2 : decide ((m : Int) < 3 * (k : Int)) = false := by simp; omega
              have hmk : m = 3 * k := by omega
              have HOW := Lib.hid hown
              clear hown
              go_wp2
              go_ret2
              refine ⟨_, ret_vb key.out.1.symm, ?_, hB⟩
              rw [key.out.2, shR_len, HL.out, ← hmk]
              exact HOW.out
    · rw [show inB bud 0 999999 = false from decide_eq_false hb] at hv2
      have key : Hid (shK xs bud = false ∧ shL xs bud = []) := ⟨decide_eq_false fun hp => hb hp.2, if_neg fun hp => hb hp.2⟩
      go_enter Try.func26, Try.ntmps26
      go_wp2_with (first | (go_at_call 48; refine hv.mono ?_; rintro e w1 ⟨rfl, hb1⟩) | (go_at_call 40; refine (hv2 _).mono ?_; rintro e w2 ⟨rfl, hb2⟩))
      go_ret2
      exact ⟨_, ret_vb key.out.1.symm, by rw [key.out.2]; exact own_below (own_below HE.out hb1) hb2, (hall.trans (hb1.mono hall.size)).trans (hb2.mono (hall.trans (hb1.mono hall.size)).size)⟩
  · rw [show lB xs = false from decide_eq_false q] at hv
    have key : Hid (shK xs bud = false ∧ shL xs bud = []) := ⟨decide_eq_false fun hp => q hp.1, if_neg fun hp => q hp.1⟩
    go_enter Try.func26, Try.ntmps26
    go_wp2_with (first | (go_at_call 48; refine hv.mono ?_; rintro e w1 ⟨rfl, hb1⟩))
    go_ret2
    exact ⟨_, ret_vb key.out.1.symm, by rw [key.out.2]; exact own_below HE.out hb1, hall.trans (hb1.mono hall.size)⟩
end Go.Proofs.Ythkoafcbcnobhaa
