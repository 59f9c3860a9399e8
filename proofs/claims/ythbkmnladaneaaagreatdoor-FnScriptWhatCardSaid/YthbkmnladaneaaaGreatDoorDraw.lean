/-
  The reader of a code: 'l6Open' makes one, 'pick' gives a number from 0 to n-1 and moves it on.
  Conditions: the reader's block holds a slice of at most 2000 bytes and a place that is not below 0.
-/
import Derived.Test.YthbkmnladaneaaaGreatDoorRows
import Derived.Test.YthbkmnladaneaaaGreatDoorLib
import Derived.Test.YthbkmnladaneaaaGreatDoorOwn
namespace Go.Proofs.YthbkmnladaneaaaGreatDoor
open Go.RowKit
set_option linter.unusedVariables false

/-- Block g is a reader over bytes below block B, at a place of at most K. -/
def Rd (w : World) (B g K : Nat) : Prop :=
  ∃ (A : Option Addr) (n c : Nat) (bs : List Value) (p : Nat), Bk w g 56 #[.slice A n c, .int .i64 p] ∧ Sl w B 1 A n bs ∧ n ≤ 2000 ∧ (∀ u ∈ bs, ∃ x : Nat, x < 256 ∧ u = .int .u8 x) ∧ B ≤ g ∧ p ≤ K

theorem Rd.more {w : World} {B g K K' : Nat} (h : Rd w B g K) (hK : K ≤ K') : Rd w B g K' := by
  obtain ⟨A, n, c, bs, p, h1, h2, h3, h4, h5, h6⟩ := h
  exact ⟨A, n, c, bs, p, h1, h2, h3, h4, h5, by omega⟩
theorem Rd.lt {w : World} {B g K : Nat} (h : Rd w B g K) : B ≤ g ∧ g < w.heap.size := by
  obtain ⟨A, n, c, bs, p, h1, h2, h3, h4, h5, h6⟩ := h
  exact ⟨h5, h1.lt⟩
theorem Rd.drew {w : World} {B g K : Nat} (h : Rd w B g K) : Rd w.drew B g K := h
theorem Rd.drewN {w : World} {B g K : Nat} (h : Rd w B g K) (n : Nat) : Rd (w.drewN n) B g K := h
theorem Rd.below {w w' : World} {B g K : Nat} (h : Rd w B g K) (hb : Below w.heap.size w w') : Rd w' B g K := by
  obtain ⟨A, n, c, bs, p, h1, h2, h3, h4, h5, h6⟩ := h
  exact ⟨A, n, c, bs, p, h1.below hb h1.lt, h2.below (hb.mono (by have := h1.lt; omega)), h3, h4, h5, h6⟩

theorem Rd.grown_own {w w' : World} {B g K base size n : Nat} {e : TypeId} {v : Value} {xs : List Value} (h : Rd w B g K) (hg : w.grownBy w' v.ownBlock) (hown : w.ownsRow base e size v n xs) (hb : g < base) : Rd w' B g K := by
  obtain ⟨A, n, c, bs, p, h1, h2, h3, h4, h5, h6⟩ := h
  exact ⟨A, n, c, bs, p, h1.grown_own hg hown hb, h2.grown_own hg hown (by omega) (by have := h1.lt; omega), h3, h4, h5, h6⟩
theorem Rd.setCell {w : World} {B g K : Nat} (h : Rd w B g K) {p : Addr} (hp : g < p.block) (u : Value) : Rd (w.setCell p u) B g K := by
  obtain ⟨A, n, c, bs, q, h1, h2, h3, h4, h5, h6⟩ := h
  exact ⟨A, n, c, bs, q, h1.far (by omega) u, h2.setCell (by omega) u, h3, h4, h5, h6⟩

theorem rd_byte_at {w : World} {B n : Nat} {A : Option Addr} {bs : List Value} (h : Sl w B 1 A n bs) (hbs : ∀ u ∈ bs, ∃ x : Nat, x < 256 ∧ u = .int .u8 x) {k : Nat} (hk : k < n) :
    ∃ b off x, A = some ⟨b, off, none⟩ ∧ b < B ∧ x < 256 ∧ w.cell? ⟨b, off + k, none⟩ = some (.int .u8 (x : Nat)) := by
  obtain ⟨b, off, e, hb, hc⟩ := h.2 (by omega)
  have hl : k < bs.length := by have := h.1; omega
  obtain ⟨x, hx, e2⟩ := hbs bs[k] (List.getElem_mem hl)
  exact ⟨b, off, x, e, hb, hx, hc k _ (by rw [List.getElem?_eq_getElem hl, e2])⟩

set_option maxHeartbeats 400000 in
theorem pick_low (g : Nat) (A : Option Addr) (n c p : Nat) (m : Int) (w : World) (hb : Bk w g 56 #[.slice A n c, .int .i64 p]) (hp : p ≤ 1099511627776) (hn : n ≤ 2000) (hm : m < 1) :
    Calls Tryz.prog 17 #[.pointer (some ⟨g, 0, none⟩), .int .i64 m] w fun e w' => e = .returned (.int .i64 0) ∧ w' = w.setCell ⟨g, 1, none⟩ (.int .i64 (p + 1)) := by
  have hc0 := hb.cell 0
  have hc1 := hb.cell 1
  have hf1 := hb.frozen 1
  simp at hc0 hc1
  go_enter Tryz.func17, Tryz.ntmps17
  go_wp2
  go_ret
  exact ⟨rfl, rfl⟩

set_option maxHeartbeats 400000 in
theorem pick_none (g : Nat) (A : Option Addr) (c p : Nat) (m : Int) (w : World) (hb : Bk w g 56 #[.slice A 0 c, .int .i64 p]) (hp : p ≤ 1099511627776) (hm : 1 ≤ m) :
    Calls Tryz.prog 17 #[.pointer (some ⟨g, 0, none⟩), .int .i64 m] w fun e w' => e = .returned (.int .i64 0) ∧ w' = w.setCell ⟨g, 1, none⟩ (.int .i64 (p + 1)) := by
  have hc0 := hb.cell 0
  have hc1 := hb.cell 1
  have hf1 := hb.frozen 1
  have hd0 := (hb.set_ 1 (.int .i64 (p + 1))).cell 0
  simp at hc0 hc1 hd0
  go_enter Tryz.func17, Tryz.ntmps17
  go_wp2
  go_ret
  exact ⟨rfl, rfl⟩

set_option maxHeartbeats 400000 in
theorem pick_in (g : Nat) (b off n c p x : Nat) (m : Int) (w : World) (hb : Bk w g 56 #[.slice (some ⟨b, off, none⟩) n c, .int .i64 p]) (hn : n ≤ 2000) (hp : p < n) (hm : 1 ≤ m) (hm' : m ≤ 9223372036854775807)
    (hbg : b < g) (hx : x < 256) (hc : w.cell? ⟨b, off + p, none⟩ = some (.int .u8 (x : Nat))) :
    Calls Tryz.prog 17 #[.pointer (some ⟨g, 0, none⟩), .int .i64 m] w fun e w' => e = .returned (.int .i64 ((x : Int) % m)) ∧ w' = w.setCell ⟨g, 1, none⟩ (.int .i64 (p + 1)) := by
  have hc0 := hb.cell 0
  have hc1 := hb.cell 1
  have hf1 := hb.frozen 1
  have hd0 := (hb.set_ 1 (.int .i64 (p + 1))).cell 0
  have hd1 := (hb.set_ 1 (.int .i64 (p + 1))).cell 1
  have hd2 : (w.setCell ⟨g, 1, none⟩ (.int .i64 (p + 1))).cell? ⟨b, off + p, none⟩ = some (.int .u8 (x : Nat)) := by
    rw [World.cell?_setCell_other _ _ _ _ (fun e => by injection e; omega)]; exact hc
  simp at hc0 hc1 hd0 hd1
  have e1 : decide (m < 1) = false := by simp; omega
  have e2 : ((n : Int) == 0) = false := by simp; omega
  go_enter Tryz.func17, Tryz.ntmps17
  go_wp2
  go_ret
  exact ⟨rfl, rfl⟩

set_option maxHeartbeats 1000000 in
theorem pick_out (g : Nat) (b off n c p x y : Nat) (m : Int) (w : World) (hb : Bk w g 56 #[.slice (some ⟨b, off, none⟩) n c, .int .i64 p]) (hn : n ≤ 2000) (h0 : 0 < n) (hp : n ≤ p) (hp' : p ≤ 1099511627776) (hm : 1 ≤ m) (hm' : m ≤ 9223372036854775807)
    (hbg : b < g) (hx : x < 256) (hy : y < 256) (hc : w.cell? ⟨b, off + p % n, none⟩ = some (.int .u8 (x : Nat))) (hc' : w.cell? ⟨b, off + (p * 7 + 3) % n, none⟩ = some (.int .u8 (y : Nat))) :
    Calls Tryz.prog 17 #[.pointer (some ⟨g, 0, none⟩), .int .i64 m] w fun e w' => ∃ r k, e = .returned (.int .i64 r) ∧ 0 ≤ r ∧ r < m ∧ w' = (w.setCell ⟨g, 1, none⟩ (.int .i64 (p + 1))).drewN k := by
  have hc0 := hb.cell 0
  have hc1 := hb.cell 1
  have hf1 := hb.frozen 1
  have hd0 := (hb.set_ 1 (.int .i64 (p + 1))).cell 0
  have hd1 := (hb.set_ 1 (.int .i64 (p + 1))).cell 1
  have hd2 : (w.setCell ⟨g, 1, none⟩ (.int .i64 (p + 1))).cell? ⟨b, off + p % n, none⟩ = some (.int .u8 (x : Nat)) := by
    rw [World.cell?_setCell_other _ _ _ _ (fun e => by injection e; omega)]; exact hc
  have hd3 : (w.setCell ⟨g, 1, none⟩ (.int .i64 (p + 1))).cell? ⟨b, off + (p * 7 + 3) % n, none⟩ = some (.int .u8 (y : Nat)) := by
    rw [World.cell?_setCell_other _ _ _ _ (fun e => by injection e; omega)]; exact hc'
  simp at hc0 hc1 hd0 hd1
  have e1 : decide (m < 1) = false := by simp; omega
  have e2 : ((n : Int) == 0) = false := by simp; omega
  have e3 : ¬ n = 0 := by omega
  have l1 : p % n < n := Nat.mod_lt _ h0
  have l2 : (p * 7 + 3) % n < n := Nat.mod_lt _ h0
  have q1 : (p : Int).tmod n = ((p % n : Nat) : Int) := rfl
  have q2 : ((p : Int) * 7 + 3).tmod n = (((p * 7 + 3) % n : Nat) : Int) := rfl
  have q3 : (p : Int).tdiv n = ((p / n : Nat) : Int) := rfl
  have q4 : p / n ≤ p := Nat.div_le_self _ _
  generalize p / n = i3 at *
  generalize p % n = i1 at *
  generalize (p * 7 + 3) % n = i2 at *
  go_enter Tryz.func17, Tryz.ntmps17
  go_wp2
  go_quiet (fail)
  go_wp2
  go_ret
  have hxn : ∀ X : Int, 0 ≤ X → X ≤ 4611686018427387904 → 0 ≤ bits BinOp.xor IntKind.i64 X (X / 64) := fun X h h' => xor_nonneg _ _ h (by omega) (by omega) (by omega)
  refine ⟨_, nq, rfl, ?_, ?_, rfl⟩
  · exact Int.tmod_nonneg _ (hxn _ (by omega) (by omega))
  · exact Int.tmod_lt_of_pos _ (by omega)

/-- The bytes of a slice. -/
def Bytes (w : World) (B : Nat) (A : Option Addr) (n : Nat) : Prop := ∃ bs : List Value, Sl w B 1 A n bs ∧ (∀ u ∈ bs, ∃ x : Nat, x < 256 ∧ u = .int .u8 x)

theorem Bytes.below {w w' : World} {B n : Nat} {A : Option Addr} (h : Bytes w B A n) (hb : Below B w w') : Bytes w' B A n := by
  obtain ⟨bs, h1, h2⟩ := h
  exact ⟨bs, h1.below hb, h2⟩

theorem Bytes.more {w : World} {B B' n : Nat} {A : Option Addr} (h : Bytes w B A n) (hB : B ≤ B') : Bytes w B' A n := by
  obtain ⟨bs, h1, h2⟩ := h
  exact ⟨bs, h1.more hB, h2⟩
theorem Bytes.cut {w : World} {B n k : Nat} {A : Option Addr} (h : Bytes w B A n) (hk : k ≤ n) : Bytes w B A k := by
  obtain ⟨bs, ⟨h1, h2⟩, h3⟩ := h
  refine ⟨bs.take k, ⟨by simp; omega, fun h0 => ?_⟩, fun u hu => h3 u (List.mem_of_mem_take hu)⟩
  obtain ⟨b, off, e, hb, hc⟩ := h2 (by omega)
  refine ⟨b, off, e, hb, fun j u hu => hc j u ?_⟩
  rw [List.getElem?_take] at hu
  split at hu
  · exact hu
  · cases hu

theorem bytes_of_row {w : World} {a : Option Addr} {len cap : Nat} {zs : List Int}
    (h : (a = none ∧ len = 0 ∧ cap = 0 ∧ zs = []) ∨ ∃ x, a = some x ∧ len ≤ cap ∧ cap ≤ maxLen ∧ zs.length = cap ∧ (∀ i, i < zs.length → w.cell? (x.add i) = some (.int .u8 (zs.getD i 0))) ∧ ∀ n ∈ zs, (Lit.int .u8 n).wf = true) :
    Bytes w w.heap.size a len ∧ len ≤ cap ∧ cap ≤ maxLen := by
  obtain ⟨h1, h2, h3, h4⟩ := ints_of_row h
  refine ⟨⟨_, h1, fun u hu => ?_⟩, h2, h3⟩
  obtain ⟨z, hz, rfl⟩ := List.mem_map.1 hu
  have hb := bounds_u8 (h4 z hz)
  exact ⟨z.toNat, by omega, by rw [Int.toNat_of_nonneg hb.1]⟩

/-- 'l6Open': a new reader over at most 2000 bytes. -/
theorem open_any (A : Option Addr) (n c : Nat) (w : World) (h : Bytes w w.heap.size A n) (hnc : n ≤ c) (hc : c ≤ maxLen) :
    Calls Tryz.prog 16 #[.slice A n c] w fun e w' => e = .returned (.pointer (some ⟨w.heap.size, 0, none⟩)) ∧ Rd w' w.heap.size w.heap.size 0 ∧ Below w.heap.size w w' := by
  unfold maxLen at hc
  have fin : ∀ k, k ≤ n → k ≤ 2000 → Rd (w.alloc (.cells #[.slice A k c, .int .i64 0] 56)) w.heap.size w.heap.size 0 := fun k hk hk' => by
    obtain ⟨bs, h1, h2⟩ := h.cut hk
    exact ⟨A, k, c, bs, 0, Bk.new w _ _, h1.alloc (Nat.le_refl _) _, hk', h2, Nat.le_refl _, Nat.le_refl _⟩
  have hb := fun o => (Below.refl w.heap.size w).alloc (Nat.le_refl _) o
  by_cases h0 : n ≤ 2000
  · have e1 : decide (2000 < n) = false := by simp; omega
    go_enter Tryz.func16, Tryz.ntmps16
    go_wp2
    go_ret
    exact ⟨rfl, fin n (Nat.le_refl _) h0, hb _⟩
  · have e1 : decide (2000 < n) = true := by simp; omega
    go_enter Tryz.func16, Tryz.ntmps16
    go_wp2
    go_ret
    exact ⟨rfl, fin 2000 (by omega) (Nat.le_refl _), hb _⟩

/-- 'pick': a number from 0 to m-1 (0, if m is less than 1); the reader's place moves on by one; nothing else turns. -/
theorem pick_any (B g K : Nat) (m : Int) (w : World) (h : Rd w B g K) (hK : K ≤ 1099511627776) (hm' : m ≤ 9223372036854775807) :
    Calls Tryz.prog 17 #[.pointer (some ⟨g, 0, none⟩), .int .i64 m] w fun e w' => ∃ r : Int, e = .returned (.int .i64 r) ∧ 0 ≤ r ∧ (1 ≤ m → r < m) ∧ Rd w' B g (K + 1) ∧ Only g w w' ∧ w'.heap.size ≤ w.heap.size := by
  obtain ⟨A, n, c, bs, p, hb, hs, hn, hbs, hBg, hpK⟩ := h
  have hgl := hb.lt
  have fin : ∀ k, Rd ((w.setCell ⟨g, 1, none⟩ (.int .i64 (p + 1))).drewN k) B g (K + 1) ∧ Only g w ((w.setCell ⟨g, 1, none⟩ (.int .i64 (p + 1))).drewN k) ∧ ((w.setCell ⟨g, 1, none⟩ (.int .i64 (p + 1))).drewN k).heap.size ≤ w.heap.size := by
    intro k
    refine ⟨⟨A, n, c, bs, p + 1, ?_, (hs.setCell (p := ⟨g, 1, none⟩) hBg _).drewN k, hn, hbs, hBg, by omega⟩, (Only.set_ g 1 w _).drewN k, by simp [World.setCell, World.drewN]⟩
    have := (hb.set_ 1 (.int .i64 (p + 1))).drewN k
    simpa using this
  have fin0 := fin 0
  have e0 : (w.setCell ⟨g, 1, none⟩ (.int .i64 (p + 1))).drewN 0 = w.setCell ⟨g, 1, none⟩ (.int .i64 (p + 1)) := rfl
  rw [e0] at fin0
  by_cases hm : m < 1
  · refine (pick_low g A n c p m w hb (by omega) hn hm).mono ?_
    rintro e w' ⟨rfl, rfl⟩
    exact ⟨0, rfl, by omega, by omega, fin0⟩
  · by_cases h0 : n = 0
    · subst h0
      refine (pick_none g A c p m w hb (by omega) (by omega)).mono ?_
      rintro e w' ⟨rfl, rfl⟩
      exact ⟨0, rfl, by omega, by omega, fin0⟩
    · by_cases hp : p < n
      · obtain ⟨b, off, x, rfl, hbB, hx, hc⟩ := rd_byte_at hs hbs hp
        refine (pick_in g b off n c p x m w hb hn hp (by omega) hm' (by omega) hx hc).mono ?_
        rintro e w' ⟨rfl, rfl⟩
        exact ⟨_, rfl, Int.emod_nonneg _ (by omega), fun _ => Int.emod_lt_of_pos _ (by omega), fin0⟩
      · obtain ⟨b, off, x, rfl, hbB, hx, hc⟩ := rd_byte_at hs hbs (Nat.mod_lt p (by omega : 0 < n))
        obtain ⟨b', off', y, he, _, hy, hc'⟩ := rd_byte_at hs hbs (Nat.mod_lt (p * 7 + 3) (by omega : 0 < n))
        injection he with he
        injection he with h1 h2
        subst h1 h2
        refine (pick_out g b off n c p x y m w hb hn (by omega) (by omega) (by omega) (by omega) hm' (by omega) hx hy hc hc').mono ?_
        rintro e w' ⟨r, k, rfl, hr0, hr1, rfl⟩
        exact ⟨r, rfl, hr0, fun _ => hr1, fin k⟩


/-- A cell of a new row of integers that was written out. -/
theorem lit_cell {w : World} {g : Nat} {t : TypeId} (zs : List Int) (lo hi : Int) (h : Bk w g t (zs.map (Value.int .i64)).toArray) (hz : ∀ z ∈ zs, lo ≤ z ∧ z ≤ hi) {k : Nat} (hk : k < zs.length) :
    ∃ z : Int, w.cell? ⟨g, k, none⟩ = some (.int .i64 z) ∧ lo ≤ z ∧ z ≤ hi := by
  refine ⟨zs[k], ?_, hz _ (List.getElem_mem hk)⟩
  rw [h.cell k]
  simp [hk]
end Go.Proofs.YthbkmnladaneaaaGreatDoor
