/-
  The least score of a list: what both functions give.
  Conditions: the list's memory, as each theorem states it.
-/
import Derived.Test.YteicphhkehhaaaaRows
import Derived.Test.YteicphhkehhaaaaLib
import Derived.Test.YteicphhkehhaaaaDraw
namespace Go.Proofs.Yteicphhkehhaaaa
open Go.RowKit
set_option linter.unusedVariables false

/-- The place of the least of the first k scores, -1 if k is 0. -/
def wst (zs : List Int) : Nat → Int
  | 0 => -1
  | k + 1 => if wst zs k < 0 ∨ zs[k]?.getD 0 < zs[(wst zs k).toNat]?.getD 0 then k else wst zs k

theorem wst_range (zs : List Int) (k : Nat) : -1 ≤ wst zs k ∧ wst zs k < k ∧ (0 < k → 0 ≤ wst zs k) := by
  induction k with
  | zero => simp [wst]
  | succ k ih =>
    unfold wst
    split <;> omega

/-- Are the first k scores in range? -/
def okTo (zs : List Int) (k : Nat) : Prop := ∀ j, j < k → 0 ≤ zs[j]?.getD 0 ∧ zs[j]?.getD 0 ≤ 100

theorem okTo_succ {zs : List Int} {k : Nat} (h : okTo zs k) (h0 : 0 ≤ zs[k]?.getD 0) (h1 : zs[k]?.getD 0 ≤ 100) : okTo zs (k + 1) := by
  intro j hj
  by_cases e : j = k
  · subst e; exact ⟨h0, h1⟩
  · exact h j (by omega)
theorem okTo_le {zs : List Int} {k m : Nat} (h : okTo zs m) (hk : k ≤ m) : okTo zs k := fun j hj => h j (by omega)

/-- 'ScoresWorst'. -/
def worst (zs : List Int) (r : Int) : Prop := (okTo zs zs.length ∧ r = wst zs zs.length) ∨ (¬ okTo zs zs.length ∧ r = -1)

theorem worst_eq {zs : List Int} {r r' : Int} (h : worst zs r) (h' : worst zs r') : r = r' := by
  rcases h with ⟨a, rfl⟩ | ⟨a, rfl⟩ <;> rcases h' with ⟨b, rfl⟩ | ⟨b, rfl⟩ <;> first | rfl | exact absurd a b | exact absurd b a
theorem wst_min (zs : List Int) : ∀ k : Nat, ∀ j, j < k → zs[(wst zs k).toNat]?.getD 0 ≤ zs[j]?.getD 0 ∧ ((j : Int) < wst zs k → zs[(wst zs k).toNat]?.getD 0 < zs[j]?.getD 0)
  | 0, j, hj => absurd hj (by omega)
  | k + 1, j, hj => by
    have ih := wst_min zs k
    have hr := wst_range zs k
    unfold wst
    split
    · rename_i hc
      by_cases e : j = k
      · subst e; simp
      · have := ih j (by omega)
        have hk0 := hr.2.2 (by omega)
        simp only [Int.toNat_natCast]
        have hc' : zs[k]?.getD 0 < zs[(wst zs k).toNat]?.getD 0 := by rcases hc with h | h; omega; exact h
        constructor
        · omega
        · intro _; omega
    · rename_i hc
      by_cases e : j = k
      · subst e
        have := hr.2.1
        constructor
        · omega
        · intro h; omega
      · exact ih j (by omega)
theorem worst_min {zs : List Int} {p : Nat} (h : worst zs p) : ∀ j, j < zs.length → zs[p]?.getD 0 ≤ zs[j]?.getD 0 ∧ (j < p → zs[p]?.getD 0 < zs[j]?.getD 0) := by
  rcases h with ⟨_, h⟩ | ⟨_, h⟩
  · intro j hj
    have := wst_min zs zs.length j hj
    rw [← h] at this
    simpa using this
  · omega
theorem worst_place {zs : List Int} {p : Nat} (h : worst zs p) : p < zs.length := by
  rcases h with ⟨_, h⟩ | ⟨_, h⟩
  · have := wst_range zs zs.length
    omega
  · omega

theorem wst_lt {zs : List Int} {k : Nat} {o : Int} (h : wst zs k = o) (hc : o < 0 ∨ zs[k]?.getD 0 < zs[o.toNat]?.getD 0) : wst zs (k + 1) = k := by
  subst h
  show (if _ then _ else _) = _
  rw [if_pos hc]
theorem wst_ge {zs : List Int} {k : Nat} {o : Int} (h : wst zs k = o) (hc : ¬ (o < 0 ∨ zs[k]?.getD 0 < zs[o.toNat]?.getD 0)) : wst zs (k + 1) = o := by
  subst h
  show (if _ then _ else _) = _
  rw [if_neg hc]

set_option maxHeartbeats 1000000 in
theorem spec_worst (A : Option Addr) (n c B : Nat) (zs : List Int) (w : World) (h : Ints w B A n zs) (hn : n ≤ 1099511627776) :
    Calls Try.prog 18 #[.slice A n c] w (RetQ (worst zs) w) := by
  have HL := Lib.hid h.len
  go_enter Try.func18, Try.ntmps18
  go_wp2
  go_loopw [3, 4] (fun osl i wr => ∃ (k m : Nat) (o : Int), k ≤ n ∧ i = .int .i64 k ∧ osl = .int .i64 o ∧ Hid (wst zs k = o ∧ okTo zs k) ∧ wr = w.drewN m) (fun _ i _ => n - (intOf i).toNat)
  case atStart => exact ⟨0, 0, -1, by omega, rfl, rfl, ⟨rfl, fun j hj => absurd hj (by omega)⟩, rfl⟩
  case round =>
    obtain ⟨k, m, o, hk, rfl, rfl, hok, rfl⟩ := hrel
    by_cases hlt : k < n
    · obtain ⟨b, off, rfl, hb, hcell⟩ := h.at_ (by omega)
      have hck := hcell k hlt
      have hor := wst_range zs k
      rw [hok.out.1] at hor
      obtain ⟨ho1, ho2, ho3⟩ := hor
      by_cases hr0 : 0 ≤ zs[k]?.getD 0
      · have d0 : decide (0 ≤ zs[k]?.getD 0) = true := by simpa using hr0
        by_cases hr1 : zs[k]?.getD 0 ≤ 100
        · have d1 : decide (zs[k]?.getD 0 ≤ 100) = true := by simpa using hr1
          have hok1 := okTo_succ hok.out.2 hr0 hr1
          by_cases hw : o < 0
          · have e1 : decide (o < 0) = true := by simpa using hw
            have hstep := Lib.hid (wst_lt hok.out.1 (.inl hw))
            clear hcell
            go_wp2
            go_quiet (fail)
            go_wp2
            go_roundw
            case rel => exact ⟨k + 1, _, k, by omega, by go_num, rfl, ⟨hstep.out, hok1⟩, rfl⟩
            case measure => simp [intOf]; omega
          · obtain ⟨j, rfl⟩ := Int.eq_ofNat_of_zero_le (show 0 ≤ o by omega)
            have e1 : decide ((j : Int) < 0) = false := by simp
            have hcj := hcell j (by omega)
            have hjn : j < n := by omega
            by_cases hq : zs[k]?.getD 0 < zs[j]?.getD 0
            · have e2 : decide (zs[k]?.getD 0 < zs[j]?.getD 0) = true := by simpa using hq
              have hstep := Lib.hid (wst_lt hok.out.1 (.inr hq))
              clear hcell
              go_wp2
              go_quiet (fail)
              go_wp2
              go_roundw
              case rel => exact ⟨k + 1, _, k, by omega, by go_num, rfl, ⟨hstep.out, hok1⟩, rfl⟩
              case measure => simp [intOf]; omega
            · have e2 : decide (zs[k]?.getD 0 < zs[j]?.getD 0) = false := by simpa using hq
              have hstep := Lib.hid (wst_ge hok.out.1 (by intro h; rcases h with h | h; omega; exact hq h))
              clear hcell
              go_wp2
              go_quiet (fail)
              go_wp2
              go_roundw
              case rel => exact ⟨k + 1, _, j, by omega, by go_num, rfl, ⟨hstep.out, hok1⟩, rfl⟩
              case measure => simp [intOf]; omega
        · have d1 : decide (zs[k]?.getD 0 ≤ 100) = false := by simpa using hr1
          have hno : ¬ okTo zs zs.length := fun hh => hr1 (hh k (by rw [HL.out]; exact hlt)).2
          clear hcell
          go_wp2
          go_ret
          exact ⟨-1, m, .inr ⟨hno, rfl⟩, rfl, rfl⟩
      · have d0 : decide (0 ≤ zs[k]?.getD 0) = false := by simpa using hr0
        have hno : ¬ okTo zs zs.length := fun hh => hr0 (hh k (by rw [HL.out]; exact hlt)).1
        clear hcell
        go_wp2
        go_ret
        exact ⟨-1, m, .inr ⟨hno, rfl⟩, rfl, rfl⟩
    · have hkn : k = n := by omega
      subst hkn
      go_wp2
      go_ret
      exact ⟨o, m, .inl ⟨by rw [HL.out]; exact hok.out.2, by rw [HL.out]; exact hok.out.1.symm⟩, rfl, rfl⟩

/-- The node that was made last. -/
def lastOf (g k : Nat) : Option Addr := if k = 0 then none else some ⟨g + k - 1, 0, none⟩
theorem lastOf_zero (g : Nat) : lastOf g 0 = none := rfl
theorem lastOf_succ (g k : Nat) : lastOf g (k + 1) = some ⟨g + k, 0, none⟩ := by simp [lastOf, ← Nat.add_assoc]

/-- The nodes that were made first: number j holds the score at n-1-j. -/
def Nodes (w : World) (g n k : Nat) (zs : List Int) : Prop := ∀ j, j < k → ∃ p : Nat, p + 1 + j = n ∧ Bk w (g + j) 42 #[.int .i64 (zs[p]?.getD 0), .int .i64 p, .pointer (lastOf g j)]

theorem Nodes.step {w : World} {g n k p : Nat} {zs : List Int} {q : Option Addr} (h : Nodes w g n k zs) (hsz : w.heap.size = g + k) (hp : p + 1 + k = n) (hq : q = lastOf g k) :
    Nodes (w.alloc (.cells #[.int .i64 (zs[p]?.getD 0), .int .i64 p, .pointer q] 42)) g n (k + 1) zs := by
  intro j hj
  by_cases e : j = k
  · subst e
    refine ⟨p, hp, ?_⟩
    have := Bk.new w 42 #[.int .i64 (zs[p]?.getD 0), .int .i64 p, .pointer q]
    rw [hsz, hq] at this
    rw [hq]
    exact this
  · obtain ⟨p', hp', hb⟩ := h j (by omega)
    exact ⟨p', hp', hb.alloc _⟩
theorem Nodes.below {w w' : World} {g n k : Nat} {zs : List Int} (h : Nodes w g n k zs) (hb : Below w.heap.size w w') : Nodes w' g n k zs := by
  intro j hj
  obtain ⟨p', hp', hk⟩ := h j hj
  exact ⟨p', hp', hk.below hb hk.lt⟩
theorem Nodes.only {w w' : World} {g g' n k : Nat} {zs : List Int} (h : Nodes w g n k zs) (hb : Only g' w w') (hg : g' < g) : Nodes w' g n k zs := by
  intro j hj
  obtain ⟨p', hp', hk⟩ := h j hj
  exact ⟨p', hp', hk.only hb (by omega)⟩

set_option maxHeartbeats 1000000 in
theorem scoreList_any (A : Option Addr) (n c : Nat) (zs : List Int) (w : World) (h : Ints w w.heap.size A n zs) (hn : n ≤ 1099511627776) :
    Calls Try.prog 28 #[.slice A n c] w fun e w' => e = .returned (.pointer (lastOf w.heap.size n)) ∧ Nodes w' w.heap.size n n zs ∧ Below w.heap.size w w' := by
  have HL := Lib.hid h.len
  go_enter Try.func28, Try.ntmps28
  go_wp2
  go_loopw [3, 4] (fun hd i wr => ∃ (k : Nat) (t : Int) (q : Option Addr), k ≤ n ∧ t + k + 1 ≤ n ∧ n ≤ t + k + 1 ∧ i = .int .i64 t ∧ hd = .pointer q ∧ Hid (q = lastOf w.heap.size k) ∧ Hid (wr.heap.size = w.heap.size + k) ∧ Nodes wr w.heap.size n k zs ∧ Below w.heap.size w wr) (fun _ i _ => (intOf i + 1).toNat)
  case atStart => exact ⟨0, _, none, by omega, by omega, by omega, rfl, rfl, rfl, rfl, fun j hj => absurd hj (by omega), Below.refl _ _⟩
  case round =>
    obtain ⟨k, t, q, hk, ht1, ht2, rfl, rfl, hq, hsz, hnodes, hbel⟩ := hrel
    by_cases hlt : 0 ≤ t
    · obtain ⟨p, rfl⟩ := Int.eq_ofNat_of_zero_le hlt
      obtain ⟨b, off, rfl, hb, hcell⟩ := h.at_ (by omega)
      have hck := (hbel.cell (p := ⟨b, off + p, none⟩) hb).trans (hcell p (by omega))
      have hnd := Lib.hid (hnodes.step hsz.out (p := p) (by omega) hq.out)
      have hb2 := hbel.alloc hbel.size (.cells #[.int .i64 (zs[p]?.getD 0), .int .i64 p, .pointer q] 42)
      clear hcell hnodes
      go_wp2
      go_roundw
      case rel => exact ⟨k + 1, (p : Int) - 1, _, by omega, by omega, by omega, rfl, rfl, (by rw [lastOf_succ, hsz.out]; exact rfl), (by show (wr.alloc _).heap.size = _; rw [World.size_alloc, hsz.out]; omega), hnd.out, hb2⟩
      case measure => simp [intOf]
    · have e0 : decide (0 ≤ t) = false := by simpa using hlt
      have hkn : k = n := by omega
      subst hkn
      go_wp2
      go_ret
      exact ⟨by rw [hq.out]; rfl, hnodes, hbel⟩

/-- The score of the worst one so far. -/
def sOf (zs : List Int) (o : Int) : Int := if o < 0 then 101 else zs[o.toNat]?.getD 0
theorem sOf_lt {zs : List Int} {o z : Int} (h : z < sOf zs o) : o < 0 ∨ z < zs[o.toNat]?.getD 0 := by
  unfold sOf at h
  split at h
  · exact .inl (by omega)
  · exact .inr h
theorem sOf_ge {zs : List Int} {o z : Int} (hz : z ≤ 100) (h : ¬ z < sOf zs o) : ¬ (o < 0 ∨ z < zs[o.toNat]?.getD 0) := by
  unfold sOf at h
  split at h
  · omega
  · omega
theorem sOf_nat (zs : List Int) (k : Nat) : sOf zs k = zs[k]?.getD 0 := by
  unfold sOf
  rw [if_neg (by omega)]
  rfl

set_option maxHeartbeats 2000000 in
theorem impl_worst (A : Option Addr) (n c : Nat) (zs : List Int) (w : World) (h : Ints w w.heap.size A n zs) (hn : n ≤ 1099511627776) :
    Calls Try.prog 20 #[.slice A n c] w (RetB (worst zs) w) := by
  have HL := Lib.hid h.len
  have hb0 := fun o => (Below.refl w.heap.size w).alloc (Nat.le_refl _) o
  go_enter Try.func20, Try.ntmps20
  go_wp2_with fail

  refine (scoreList_any A n c zs _ (((Ints.below h (hb0 _))).more (by simp)) hn).mono ?_
  rintro e w2 ⟨rfl, hnodes, hbel2⟩
  have hW : Bk w2 w.heap.size 42 #[.int .i64 101, .int .i64 (-1), .pointer none] := (Bk.new w _ _).below hbel2 (by simp)
  have hB2 : Below w.heap.size w w2 := (hb0 _).trans (hbel2.mono (by simp))
  have hN2 : Nodes w2 (w.heap.size + 1) n n zs := by simpa using hnodes
  clear hnodes hbel2 hb0
  go_wp2_with fail
  go_loopg [4] n (fun r nd wr => ∃ (k : Nat) (o s : Int) (q x : Option Addr), r + k = n ∧ nd = .pointer q ∧ Hid (q = lastOf (w.heap.size + 1) r) ∧ Bk wr w.heap.size 42 #[.int .i64 s, .int .i64 o, .pointer x] ∧
    Hid (wst zs k = o ∧ okTo zs k ∧ s = sOf zs o) ∧ Nodes wr (w.heap.size + 1) n n zs ∧ Below w.heap.size w wr)
  case atStart => exact ⟨0, -1, 101, _, none, by omega, rfl, rfl, hW, ⟨rfl, fun j hj => absurd hj (by omega), rfl⟩, hN2, hB2⟩
  case round =>
    obtain ⟨k, o, s, q, x, hrk, rfl, hq, hw, hok, hnd, hbel⟩ := hrel
    have hwc0 := hw.cell 0
    have hwc1 := hw.cell 1
    have hwc2 := hw.cell 2
    have hwf0 := hw.frozen 0
    have hwf1 := hw.frozen 1
    have hwf2 := hw.frozen 2
    simp at hwc0 hwc1 hwc2
    rcases gk with _ | j
    · rw [hq.out]
      simp only [lastOf_zero]
      have hkn : k = n := by omega
      subst hkn
      go_wp2
      go_ret
      exact ⟨o, .inl ⟨by rw [HL.out]; exact hok.out.2.1, by rw [HL.out]; exact hok.out.1.symm⟩, rfl, hbel⟩
    · rw [hq.out]
      simp only [lastOf_succ]
      obtain ⟨p, hp, hnb⟩ := hnd j (by omega)
      have hpk : p = k := by omega
      subst hpk
      have hnc0 := hnb.cell 0
      have hnc1 := hnb.cell 1
      have hnc2 := hnb.cell 2
      simp at hnc0 hnc1 hnc2
      have hbadz : ¬ (0 ≤ zs[p]?.getD 0 ∧ zs[p]?.getD 0 ≤ 100) → worst zs (-1) := fun hh => .inr ⟨fun hall => hh (hall p (by rw [HL.out]; omega)), rfl⟩
      by_cases hr0 : zs[p]?.getD 0 < 0
      · have d0 : decide (zs[p]?.getD 0 < 0) = true := by simpa using hr0
        have hbz := Lib.hid (hbadz (by omega))
        clear hbadz
        go_wp2
        go_ret
        exact ⟨-1, hbz.out, rfl, hbel⟩
      · have d0 : decide (zs[p]?.getD 0 < 0) = false := by simpa using hr0
        by_cases hr1 : 100 < zs[p]?.getD 0
        · have d1 : decide (100 < zs[p]?.getD 0) = true := by simpa using hr1
          have hbz := Lib.hid (hbadz (by omega))
          clear hbadz
          go_wp2
          go_ret
          exact ⟨-1, hbz.out, rfl, hbel⟩
        · have d1 : decide (100 < zs[p]?.getD 0) = false := by simpa using hr1
          clear hbadz
          have hok1 := okTo_succ hok.out.2.1 (by omega) (by omega : zs[p]?.getD 0 ≤ 100)
          have HO1 := Lib.hid hok1
          clear hok1
          by_cases hlt : zs[p]?.getD 0 < s
          · have d2 : decide (zs[p]?.getD 0 < s) = true := by simpa using hlt
            have hstep := Lib.hid (wst_lt hok.out.1 (sOf_lt (by rw [← hok.out.2.2]; exact hlt)))
            have hw' := fun nq => (((hw.drewN nq).set_ 0 (.int .i64 (zs[p]?.getD 0))).set_ 1 (.int .i64 p)).set_ 2 (.pointer (lastOf (w.heap.size + 1) j))
            have hnd' := fun nq => ((Nodes.only (w := wr.drewN nq) (fun i hi => hnd i hi) (Only.set_ w.heap.size 0 (wr.drewN nq) (.int .i64 (zs[p]?.getD 0))) (by omega)).only (Only.set_ w.heap.size 1 _ (.int .i64 p)) (by omega)).only (Only.set_ w.heap.size 2 _ (.pointer (lastOf (w.heap.size + 1) j))) (by omega)
            have hbel' := fun nq => (((Below.drewN' hbel nq).setCell (p := ⟨w.heap.size, 0, none⟩) (Nat.le_refl _) (.int .i64 (zs[p]?.getD 0))).setCell (p := ⟨w.heap.size, 1, none⟩) (Nat.le_refl _) (.int .i64 p)).setCell (p := ⟨w.heap.size, 2, none⟩) (Nat.le_refl _) (.pointer (lastOf (w.heap.size + 1) j))
            clear hnd
            go_wp2_with fail
            go_quiet (fail)
            go_wp2
            go_roundg j
            case measure => omega
            case rel => exact ⟨p + 1, p, _, _, _, by omega, rfl, rfl, by simpa using hw' _, ⟨hstep.out, HO1.out, (sOf_nat zs p).symm⟩, fun i hi => hnd' _ i hi, hbel' _⟩
          · have d2 : decide (zs[p]?.getD 0 < s) = false := by simpa using hlt
            have hstep := Lib.hid (wst_ge hok.out.1 (sOf_ge (by omega) (by rw [← hok.out.2.2]; exact hlt)))
            have hnd' := Lib.hid hnd
            clear hnd
            go_wp2_with fail
            go_quiet (fail)
            go_wp2
            go_roundg j
            case measure => omega
            case rel => exact ⟨p + 1, o, s, _, x, by omega, rfl, rfl, hw, ⟨hstep.out, HO1.out, hok.out.2.2⟩, fun i hi => hnd'.out i hi, Below.drewN' hbel _⟩

/-- A new slice of integers comes back. -/
def RetInts (P : List Int → Prop) (w : World) (e : Ending) (w' : World) : Prop :=
  ∃ (A : Option Addr) (n c : Nat) (zs : List Int), P zs ∧ e = .returned (.slice A n c) ∧ n ≤ c ∧ c ≤ maxLen ∧ Ints w' w'.heap.size A n zs ∧ Below w.heap.size w w'

theorem int_info' : (Try.prog.info? 3).map (fun i => (i.zero, i.size, i.bytes)) = some (some (.int .i64 0), 1, 8) := by kernel_rfl

set_option maxHeartbeats 1000000 in
theorem draw_worst (A : Option Addr) (n c : Nat) (w : World) (h : Bytes w w.heap.size A n) (hnc : n ≤ c) (hc : c ≤ maxLen) :
    Calls Try.prog 23 #[.slice A n c] w (RetInts (fun zs => zs.length ≤ 8) w) := by
  obtain ⟨i0, hi0, hz0, hz1, hz2⟩ := info_parts int_info'
  go_enter Try.func23, Try.ntmps23
  go_wp2_with fail
  refine (open_any A n c _ h hnc hc).mono ?_
  rintro e w1 ⟨rfl, hrd, hb⟩
  go_wp2_with fail
  have hall := fun o => (Below.refl w1.heap.size w1).alloc (Nat.le_refl _) o
  refine (pick_any _ _ _ _ _ (hrd.below (hall _)) (by omega) (by omega)).mono ?_
  rintro e w2 ⟨r, rfl, h0, h1, hrd2, ho, hsz⟩
  have h1' := h1 (by omega)
  obtain ⟨m, rfl⟩ := Int.eq_ofNat_of_zero_le h0
  have hlt1 := hrd.lt
  have hown0 := own_only (own_empty w1 (w.heap.size + 1) 3 1 (by omega)) ho (by omega)
  have hbel0 : Below w.heap.size w w2 := (hb.trans ((hall _).mono hb.size)).trans (ho.below (Nat.le_refl _) (by simp; omega))
  clear hall ho hsz hrd hb
  go_wp2_with fail
  go_loopg [4, 6] m (fun gk v i wr => ∃ (k K : Nat) (zs : List Int), gk + k = m ∧ i = .int .i64 k ∧ Hid (zs.length = k) ∧ wr.ownsRow (w.heap.size + 1) 3 1 v k (zs.map (Value.int .i64)) ∧ Rd wr w.heap.size w.heap.size K ∧ K ≤ k + 1 ∧ Below w.heap.size w wr)
  case atStart => exact ⟨0, 1, [], by omega, rfl, rfl, hown0, hrd2, by omega, hbel0⟩
  case round =>
    obtain ⟨k, K, zs, hkm, rfl, hzl, hown, hrd, hK, hbel⟩ := hrel
    have hNs := hrd.lt.2
    by_cases hlt : k < m
    · go_wp2_with fail
      refine (pick_any _ _ _ _ _ hrd (by omega) (by omega)).mono ?_
      rintro e w3 ⟨q, rfl, q0, q1, hrd3, ho3, hsz3⟩
      have hNs3 := hrd3.lt.2
      have hown3 := own_only hown ho3 (by omega)
      have hbel3 := hbel.trans (ho3.below (Nat.le_refl _) (by omega))
      clear hown hrd
      go_wp2_with (at_builtin; refine wpList_append_one w3 _ rfl _ _ 29 rfl (w.heap.size + 1) 3 i0 (.int .i64 0) 1 8 Try.underlying29 hi0 hz0 hz1 hz2 rfl (by omega) (by omega) u4 k _ rfl hown3 rfl rfl (one_int _ _) (by omega) (by omega) ?_; intro v' w4 hown4 hgrow)
      have hrd4 := hrd3.grown_own hgrow hown3 (by omega)
      have hbel4 := Below.grown_own hbel3 hgrow hown3 (by omega) (by omega)
      clear hrd3 hown3 hbel3 hgrow
      go_wp2
      go_roundg (gk - 1)
      case measure => omega
      case rel => exact ⟨k + 1, K + 1, zs ++ [q], by omega, by go_num, (by show (zs ++ [q]).length = _; rw [List.length_append, hzl.out]; rfl), by simpa using hown4, hrd4, by omega, hbel4⟩
    · have hkm' : k = m := by omega
      subst hkm'
      by_cases hk0 : k = 0
      · have e0 : decide (0 < k) = false := by simpa using hk0
        obtain ⟨A', c', rfl, hnc', hcm', hsl⟩ := own_shape hown
        go_wp2
        go_ret
        exact ⟨A', k, c', zs, (by show zs.length ≤ 8; rw [hzl.out]; omega), rfl, hnc', hcm', hsl, hbel⟩
      · have e0 : decide (0 < k) = true := by simp; omega
        obtain ⟨g, cap, rfl, hbg, _, hnc', hcm'⟩ := own_head hown (by omega)
        go_wp2_with fail
        refine (pick_any _ _ _ _ _ hrd (by omega) (by omega)).mono ?_
        rintro e w3 ⟨q, rfl, q0, q1, hrd3, ho3, hsz3⟩
        have hNs3 := hrd3.lt.2
        have hown3 := own_only hown ho3 (by omega)
        have hbel3 := hbel.trans (ho3.below (Nat.le_refl _) (by omega))
        clear hown hrd ho3 hsz3
        by_cases hq : q = 0
        · subst hq
          go_wp2_with fail
          refine (pick_any _ _ _ _ _ hrd3 (by omega) (by omega)).mono ?_
          rintro e w4 ⟨j, rfl, j0, j1, hrd4, ho4, hsz4⟩
          have hNs4 := hrd4.lt.2
          have hown4 := own_only hown3 ho4 (by omega)
          have hbel4 := hbel3.trans (ho4.below (Nat.le_refl _) (by omega))
          have j1' := j1 (by omega)
          obtain ⟨j, rfl⟩ := Int.eq_ofNat_of_zero_le j0
          have hjk : j < k := by omega
          obtain ⟨u, hu⟩ : ∃ u, w4.cell? ⟨g, j, none⟩ = some u := ⟨_, by rw [hown4.cellAt j (by omega), List.getElem?_eq_getElem (by rw [hown4.1]; omega)]⟩
          have hfz := hown4.frozenAt j
          have hown5 := (hown4.stored j (.int .i64 101)).1
          have hbel5 := hbel4.setCell (p := ⟨g, j, none⟩) (by show _ ≤ g; omega) (.int .i64 101)
          clear ho4 hsz4 hown3 hown4
          go_wp2
          go_ret
          refine ⟨_, k, cap, zs.set j 101, (by show (zs.set j 101).length ≤ 8; rw [List.length_set, hzl.out]; omega), rfl, hnc', hcm', ?_, hbel5⟩
          have := Sl.of_own hown5
          rw [← List.map_set] at this
          exact this
        · have e1 : (q == 0) = false := by simpa using hq
          go_wp2
          go_ret
          exact ⟨_, k, cap, zs, (by show zs.length ≤ 8; rw [hzl.out]; omega), rfl, hnc', hcm', Sl.of_own hown3, hbel3⟩
end Go.Proofs.Yteicphhkehhaaaa
