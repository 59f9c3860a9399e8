/-
  Stats: the drawn stats.
  Conditions: the code's memory.
-/
import Derived.Laws.StructEq
import Derived.Test.YtambjhapnhmmmaaRows
import Derived.Test.YtambjhapnhmmmaaLib
import Derived.Test.YtambjhapnhmmmaaDraw
import Derived.Test.YtambjhapnhmmmaaInv
import Derived.Test.YtambjhapnhmmmaaSlots
import Derived.Test.YtambjhapnhmmmaaStats
import Derived.Test.YtambjhapnhmmmaaStatsB
import Derived.Test.YtambjhapnhmmmaaStatsC
import Derived.Test.YtambjhapnhmmmaaStatsD
import Derived.Test.YtambjhapnhmmmaaStatsE
import Derived.Outline
namespace Go.Proofs.Ytambjhapnhmmmaa
open Go.RowKit
set_option linter.unusedVariables false
set_option linter.unusedSimpArgs false

def VSt (v : Value) : Prop := ∃ a b c d e : Int, v = .agg #[.int .i64 a, .int .i64 b, .int .i64 c, .int .i64 d, .int .i64 e]
def VStRes (v : Value) : Prop := ∃ (a b c d e : Int) (r : Bool), v = .tuple #[.agg #[.int .i64 a, .int .i64 b, .int .i64 c, .int .i64 d, .int .i64 e], .bool r]
def StatsAny (w : World) (x : Ending) (w' : World) : Prop := ∃ v, VStRes v ∧ x = .returned v ∧ Below w.heap.size w w'
theorem sput_any (a b c d e wd t cm : Int) (w : World) : Calls Try.prog 18 #[.agg #[.int .i64 a, .int .i64 b, .int .i64 c, .int .i64 d, .int .i64 e], .int .i64 wd, .int .i64 t, .int .i64 cm] w (StatsAny w) := by
  by_cases h : PutOk a b c d e wd t cm
  · exact (sput_ok a b c d e wd t cm w h).mono fun _ _ ⟨h1, h2⟩ => ⟨_, ⟨_, _, _, _, _, _, rfl⟩, h1, h2⟩
  · exact (sput_no a b c d e wd t cm w h).mono fun _ _ ⟨h1, h2⟩ => ⟨_, ⟨_, _, _, _, _, _, rfl⟩, h1, h2⟩

theorem wrap64_in (x : Int) (h0 : -4611686018427387904 ≤ x) (h1 : x ≤ 4611686018427387904) : wrap64 x = x := by
  unfold wrap64
  omega

/-- What the slots hold of the region in the round. -/
def IS (N g : Nat) (a b c d e : Int) : Nat → Value → World → Prop
  | 0, v, _ => v = .agg #[.int .i64 a, .int .i64 b, .int .i64 c, .int .i64 d, .int .i64 e]
  | 1, v, _ => VAny v
  | 2, v, _ => VAny v
  | 3, v, _ => VAny v
  | 4, v, _ => VAny v
  | 5, v, _ => VAny v
  | 6, v, _ => VAny v
  | 7, v, _ => VAny v
  | 8, v, _ => VPtr g 0 v
  | 9, v, _ => VAny v
  | 10, v, _ => VAny v
  | 11, v, _ => VStRes v
  | 12, v, _ => VStRes v
  | 13, v, _ => VSt v
  | 14, v, _ => VBool v
  | 15, v, w => VOwn N 31 [true, true, true, true, true] v w
  | 17, v, _ => VBool v
  | _, _, _ => True
theorem IS.mono {N g : Nat} {a b c d e : Int} (j : Nat) (v : Value) (w w' : World) (ho : Steady N g w w') (h : IS N g a b c d e j v w) : IS N g a b c d e j v w' := by
  unfold IS at *
  split at h <;> first | exact VOwn.steady h ho | exact h

/-- Stats come back. -/
def StatsDrawn (B g K : Nat) (w : World) (x : Ending) (w' : World) : Prop := ∃ v, VSt v ∧ x = .returned v ∧ Rd w' B g K ∧ Only g w w'

set_option maxHeartbeats 4000000 in
theorem l92Stats_any (B g K : Nat) (w : World) (h : Rd w B g K) (hK : K ≤ 1099511620000) :
    Calls Try.prog 65 #[.pointer (some ⟨g, 0, none⟩)] w (StatsDrawn B g (K + 300) w) := by
  have hl := h.lt
  have hres := Bk.new w 31 #[.int .i64 0, .int .i64 0, .int .i64 0, .int .i64 0, .int .i64 0]
  have hall0 := fun o => (Below.refl w.heap.size w).alloc (Nat.le_refl _) o
  go_enter Try.func65, Try.ntmps65
  go_wp2_with fail
  go_wp2_with fail
  refine (pick_any _ _ _ _ _ (h.below (hall0 _)) (by omega) (by omega)).mono ?_
  rintro e w_p ⟨p, rfl, p_0, p_1, hrd_p, ho_p, hsz_p⟩
  have p_u := p_1 (by omega)
  have hlt_p := hrd_p.lt
  clear p_1
  go_wp2_with fail
  refine (pick_any _ _ _ _ _ hrd_p (by omega) (by omega)).mono ?_
  rintro e w_q ⟨q, rfl, q_0, q_1, hrd_q, ho_q, hsz_q⟩
  have q_u := q_1 (by omega)
  have hlt_q := hrd_q.lt
  clear q_1
  have hO : Only g w w_q := ((Only.of_below (hall0 _)).trans ho_p).trans ho_q
  replace hres := hres.only ho_p (by first | omega | (simp; done) | (simp; omega))
  replace hres := hres.only ho_q (by first | omega | (simp; done) | (simp; omega))
  have hsz : w.heap.size < w_q.heap.size := hres.lt
  clear ho_p ho_q hsz_p hsz_q hrd_p h hall0
  have hw : wtB (10 + p) 100 (100 + q) = true := decide_eq_true ⟨by omega, by omega, by omega, by omega, by omega, by omega⟩
  go_wp2_with fail
  refine (snew_ok _ _ _ _ hw).mono ?_
  rintro e w1 ⟨rfl, hb1⟩
  clear hw
  replace hO : Only g w w1 := hO.trans (Only.of_below hb1)
  replace hres := hres.below hb1 (by first | omega | (simp; done) | (simp; omega))
  have hrd1 := hrd_q.below hb1
  have hs1 : w.heap.size < w1.heap.size := hres.lt
  have hl1 := hrd1.lt
  have hS := Bk.new w1 31 #[.int .i64 (10 + p), .int .i64 (10 + p), .int .i64 1, .int .i64 0, .int .i64 (100 + q - 100)]
  clear hb1 hrd_q hsz hlt_q hlt_p
  go_wp2_with fail
  have hallS := fun o => (Below.refl w1.heap.size w1).alloc (Nat.le_refl _) o
  go_wp2_with fail
  refine (pick_any _ _ _ _ _ (hrd1.below (hallS _)) (by omega) (by omega)).mono ?_
  rintro e w_n ⟨n, rfl, n_0, n_1, hrd_n, ho_n, hsz_n⟩
  have n_u := n_1 (by omega)
  have hlt_n := hrd_n.lt
  clear n_1
  replace hO : Only g w w_n := (hO.trans (Only.of_below (hallS _))).trans ho_n
  replace hres := (hres.alloc (.cells #[.int .i64 (10 + p), .int .i64 (10 + p), .int .i64 1, .int .i64 0, .int .i64 (100 + q - 100)] 31)).only ho_n (by omega)
  replace hS := hS.only ho_n (by first | omega | (simp; done) | (simp; omega))
  (try clear hS_c0); (try clear hS_f0)
  (try clear hS_c1); (try clear hS_f1)
  (try clear hS_c2); (try clear hS_f2)
  (try clear hS_c3); (try clear hS_f3)
  (try clear hS_c4); (try clear hS_f4)
  (try clear hS_lt)
  have hS_lt := hS.lt; (try simp only [World.size_alloc] at hS_lt)
  have hS_c0 := hS.cell 0; have hS_f0 := hS.frozen 0
  have hS_c1 := hS.cell 1; have hS_f1 := hS.frozen 1
  have hS_c2 := hS.cell 2; have hS_f2 := hS.frozen 2
  have hS_c3 := hS.cell 3; have hS_f3 := hS.frozen 3
  have hS_c4 := hS.cell 4; have hS_f4 := hS.frozen 4
  simp only [List.getElem?_toArray, List.getElem?_cons_zero, List.getElem?_cons_succ] at hS_c0 hS_c1 hS_c2 hS_c3 hS_c4
  clear hallS ho_n hsz_n hrd1
  obtain ⟨n, rfl⟩ := Int.eq_ofNat_of_zero_le n_0
  have hgs : w.heap.size < w1.heap.size := hs1
  generalize w1.heap.size = gs at *
  go_wp2_with fail
  (try clear hS_c0); (try clear hS_f0)
  (try clear hS_c1); (try clear hS_f1)
  (try clear hS_c2); (try clear hS_f2)
  (try clear hS_c3); (try clear hS_f3)
  (try clear hS_c4); (try clear hS_f4)
  (try clear hS_lt)
  go_loopw [6, 7] (fun wd i wr => ∃ (k : Nat) (a b c d e z : Int), k ≤ n ∧ i = .int .i64 k ∧ wd = .int .i64 z ∧ 0 ≤ z ∧ z ≤ 14 + 10 * k ∧ Bk wr gs 31 #[.int .i64 a, .int .i64 b, .int .i64 c, .int .i64 d, .int .i64 e] ∧ Bk wr w.heap.size 31 #[.int .i64 0, .int .i64 0, .int .i64 0, .int .i64 0, .int .i64 0] ∧ Rd wr B g (K + 3 + 25 * k) ∧ Only g w wr) (fun _ i _ => n - (intOf i).toNat)
  case atStart => exact ⟨0, _, _, _, _, _, _, by omega, rfl, rfl, by omega, by omega, hS, hres, hrd_n, hO⟩
  case round =>
    obtain ⟨k, a, b, c, d, e, z, hk, rfl, rfl, hz0, hz1, hS, hres, hrd, hO⟩ := hrel
    by_cases hlt : k < n
    · have e0 : decide ((k : Int) < n) = true := by simpa using hlt
      go_wp2_with fail
      refine (pick_any _ _ _ _ _ hrd (by omega) (by omega)).mono ?_
      rintro e w_u1 ⟨u1, rfl, u1_0, u1_1, hrd_u1, ho_u1, hsz_u1⟩
      have u1_u := u1_1 (by omega)
      have hlt_u1 := hrd_u1.lt
      clear u1_1
      go_wp2_with fail
      refine (pick_any _ _ _ _ _ hrd_u1 (by omega) (by omega)).mono ?_
      rintro e w_u2 ⟨u2, rfl, u2_0, u2_1, hrd_u2, ho_u2, hsz_u2⟩
      have u2_u := u2_1 (by omega)
      have hlt_u2 := hrd_u2.lt
      clear u2_1
      go_wp2_with fail
      refine (pick_any _ _ _ _ _ hrd_u2 (by omega) (by omega)).mono ?_
      rintro e w_u3 ⟨u3, rfl, u3_0, u3_1, hrd_u3, ho_u3, hsz_u3⟩
      have u3_u := u3_1 (by omega)
      have hlt_u3 := hrd_u3.lt
      clear u3_1
      replace hO : Only g w w_u3 := ((hO.trans ho_u1).trans ho_u2).trans ho_u3
      replace hS := hS.only ho_u1 (by first | omega | (simp; done) | (simp; omega))
      replace hres := hres.only ho_u1 (by first | omega | (simp; done) | (simp; omega))
      replace hS := hS.only ho_u2 (by first | omega | (simp; done) | (simp; omega))
      replace hres := hres.only ho_u2 (by first | omega | (simp; done) | (simp; omega))
      replace hS := hS.only ho_u3 (by first | omega | (simp; done) | (simp; omega))
      replace hres := hres.only ho_u3 (by first | omega | (simp; done) | (simp; omega))
      have hSl := hS.lt
      have hrl := hres.lt
      clear ho_u1 ho_u2 ho_u3 hsz_u1 hsz_u2 hsz_u3 hrd hrd_u1 hrd_u2
      have hq0 : 0 ≤ u1 / 4 ∧ u1 / 4 ≤ 1 := by omega
      have hm := mul_bd 1 3 (show -1 ≤ u1 / 4 by omega) hq0.2 (show 0 ≤ 1 + u2 by omega) (by omega) (by omega)
      have hm0 : 0 ≤ u1 / 4 * (1 + u2) := Int.mul_nonneg hq0.1 (by omega)
      have hm1 : u1 / 4 * (1 + u2) ≤ 3 := by have := hm.2; omega
      clear hm hq0
      obtain ⟨mm, hmm⟩ : ∃ mm, u1 / 4 * (1 + u2) = mm := ⟨_, rfl⟩
      rw [hmm] at hm0 hm1
      have hz2 : z ≤ 100 := by omega
      go_wp2_with fail
      clear hmm
      refine wp_region_inv (fun m w' => Rd w' B g (K + 3 + 25 * k + 3 + m) ∧ Steady w_u3.heap.size g w_u3 w') (Steady w_u3.heap.size g) (IS w_u3.heap.size g a b c d e) (by kernel_rfl) (by kernel_rfl) (by kernel_rfl) ⟨Rd.drew hrd_u3, Steady.drew (Steady.refl _ _ _)⟩ IS.mono ⟨?_, ?_, ?_, ?_, ?_, ?_, ?_, ?_, ?_, ?_, ?_, ?_, ?_, ?_, ?_, ?_, ?_, ?_, trivial⟩ ?_
      · intro n x wv hn ⟨hcr, hco⟩ hd
        have HO := Lib.hid hco
        clear hco
        replace hn : n < 18 := hn
        have hlv := hcr.lt
        have hsv := HO.out.size
        clear hd
        have hs := hS.steady HO.out (by omega) (by omega)
        (try clear hs_c0); (try clear hs_f0)
        (try clear hs_c1); (try clear hs_f1)
        (try clear hs_c2); (try clear hs_f2)
        (try clear hs_c3); (try clear hs_f3)
        (try clear hs_c4); (try clear hs_f4)
        (try clear hs_lt)
        have hs_lt := hs.lt; (try simp only [World.size_alloc] at hs_lt)
        have hs_c0 := hs.cell 0; have hs_f0 := hs.frozen 0
        have hs_c1 := hs.cell 1; have hs_f1 := hs.frozen 1
        have hs_c2 := hs.cell 2; have hs_f2 := hs.frozen 2
        have hs_c3 := hs.cell 3; have hs_f3 := hs.frozen 3
        have hs_c4 := hs.cell 4; have hs_f4 := hs.frozen 4
        simp only [List.getElem?_toArray, List.getElem?_cons_zero, List.getElem?_cons_succ] at hs_c0 hs_c1 hs_c2 hs_c3 hs_c4
        refine ⟨?_⟩
        simp only [fill, Act.put, List.setIfInBounds_toArray, List.set_cons_zero, List.set_cons_succ]
        go_simp
        exact ⟨Steady.refl _ _ _, ⟨hcr.more (by omega), HO.out⟩, rfl⟩
      · intro n x wv hn ⟨hcr, hco⟩ hd
        have HO := Lib.hid hco
        clear hco
        replace hn : n < 18 := hn
        have hlv := hcr.lt
        have hsv := HO.out.size
        clear hd
        refine ⟨?_⟩
        simp only [fill, Act.put, List.setIfInBounds_toArray, List.set_cons_zero, List.set_cons_succ]
        go_simp
        exact ⟨Steady.refl _ _ _, ⟨hcr.more (by omega), HO.out⟩, ⟨_, rfl⟩⟩
      · intro n x wv hn ⟨hcr, hco⟩ hd
        have HO := Lib.hid hco
        clear hco
        replace hn : n < 18 := hn
        have hlv := hcr.lt
        have hsv := HO.out.size
        clear hd
        refine ⟨?_⟩
        simp only [fill, Act.put, List.setIfInBounds_toArray, List.set_cons_zero, List.set_cons_succ]
        go_simp
        exact ⟨Steady.refl _ _ _, ⟨hcr.more (by omega), HO.out⟩, ⟨_, rfl⟩⟩
      · intro n x wv hn ⟨hcr, hco⟩ hd
        have HO := Lib.hid hco
        clear hco
        replace hn : n < 18 := hn
        have hlv := hcr.lt
        have hsv := HO.out.size
        simp [IS, Region.binds] at hd
        obtain ⟨r, hx⟩ := hd
        refine ⟨?_⟩
        simp only [fill, Act.put, List.setIfInBounds_toArray, List.set_cons_zero, List.set_cons_succ]
        go_simp
        exact ⟨Steady.refl _ _ _, ⟨hcr.more (by omega), HO.out⟩, ⟨_, rfl⟩⟩
      · intro n x wv hn ⟨hcr, hco⟩ hd
        have HO := Lib.hid hco
        clear hco
        replace hn : n < 18 := hn
        have hlv := hcr.lt
        have hsv := HO.out.size
        simp [IS, Region.binds] at hd
        obtain ⟨r, hx⟩ := hd
        refine ⟨?_⟩
        simp only [fill, Act.put, List.setIfInBounds_toArray, List.set_cons_zero, List.set_cons_succ]
        go_simp
        exact ⟨Steady.refl _ _ _, ⟨hcr.more (by omega), HO.out⟩, ⟨_, rfl⟩⟩
      · intro n x wv hn ⟨hcr, hco⟩ hd
        have HO := Lib.hid hco
        clear hco
        replace hn : n < 18 := hn
        have hlv := hcr.lt
        have hsv := HO.out.size
        clear hd
        refine ⟨?_⟩
        simp only [fill, Act.put, List.setIfInBounds_toArray, List.set_cons_zero, List.set_cons_succ]
        go_simp
        exact ⟨Steady.refl _ _ _, ⟨hcr.more (by omega), HO.out⟩, ⟨_, rfl⟩⟩
      · intro n x wv hn ⟨hcr, hco⟩ hd
        have HO := Lib.hid hco
        clear hco
        replace hn : n < 18 := hn
        have hlv := hcr.lt
        have hsv := HO.out.size
        simp [IS, Region.binds] at hd
        obtain ⟨r, hx⟩ := hd
        refine ⟨?_⟩
        simp only [fill, Act.put, List.setIfInBounds_toArray, List.set_cons_zero, List.set_cons_succ]
        go_simp
        exact ⟨Steady.refl _ _ _, ⟨hcr.more (by omega), HO.out⟩, ⟨_, rfl⟩⟩
      · intro n x wv hn ⟨hcr, hco⟩ hd
        have HO := Lib.hid hco
        clear hco
        replace hn : n < 18 := hn
        have hlv := hcr.lt
        have hsv := HO.out.size
        simp [IS, Region.binds] at hd
        obtain ⟨r, hx⟩ := hd
        refine ⟨?_⟩
        simp only [fill, Act.put, List.setIfInBounds_toArray, List.set_cons_zero, List.set_cons_succ]
        go_simp
        exact ⟨Steady.refl _ _ _, ⟨hcr.more (by omega), HO.out⟩, ⟨_, rfl⟩⟩
      · intro n x wv hn ⟨hcr, hco⟩ hd
        have HO := Lib.hid hco
        clear hco
        replace hn : n < 18 := hn
        have hlv := hcr.lt
        have hsv := HO.out.size
        clear hd
        refine ⟨?_⟩
        simp only [fill, Act.put, List.setIfInBounds_toArray, List.set_cons_zero, List.set_cons_succ]
        go_simp
        exact ⟨Steady.refl _ _ _, ⟨hcr.more (by omega), HO.out⟩, rfl⟩
      · intro n x wv hn ⟨hcr, hco⟩ hd
        have HO := Lib.hid hco
        clear hco
        replace hn : n < 18 := hn
        have hlv := hcr.lt
        have hsv := HO.out.size
        simp [IS, Region.binds] at hd
        have hx := hd
        replace hx : x 8 = .pointer (some ⟨g, 0, none⟩) := hx
        refine ⟨?_⟩
        simp only [fill, Act.put, List.setIfInBounds_toArray, List.set_cons_zero, List.set_cons_succ]
        go_simp
        refine (pick_any B g _ _ _ hcr (by omega) (by omega)).mono ?_
        rintro e w2 ⟨r, rfl, r0, r1, hrd2, ho2, _⟩
        have hst := Steady.of_only (N := w_u3.heap.size) ho2 (by omega) hsv
        exact ⟨hst, ⟨hrd2.more (by omega), HO.out.trans hst⟩, r, rfl⟩
      · intro n x wv hn ⟨hcr, hco⟩ hd
        have HO := Lib.hid hco
        clear hco
        replace hn : n < 18 := hn
        have hlv := hcr.lt
        have hsv := HO.out.size
        simp [IS, Region.binds] at hd
        obtain ⟨⟨r, hx⟩, s, hy⟩ := hd
        refine ⟨?_⟩
        simp only [fill, Act.put, List.setIfInBounds_toArray, List.set_cons_zero, List.set_cons_succ]
        go_simp
        exact ⟨Steady.refl _ _ _, ⟨hcr.more (by omega), HO.out⟩, ⟨_, rfl⟩⟩
      · intro n x wv hn ⟨hcr, hco⟩ hd
        have HO := Lib.hid hco
        clear hco
        replace hn : n < 18 := hn
        have hlv := hcr.lt
        have hsv := HO.out.size
        simp [IS, Region.binds] at hd
        obtain ⟨hx0, ⟨z1, hx1⟩, ⟨z4, hx4⟩, ⟨z10, hx10⟩, _⟩ := hd
        refine ⟨?_⟩
        simp only [fill, Act.put, List.setIfInBounds_toArray, List.set_cons_zero, List.set_cons_succ]
        go_simp
        refine (sput_any _ _ _ _ _ _ _ _ _).mono ?_
        rintro y w2 ⟨v, hv, rfl, hb⟩
        have hst := Steady.of_below (N := w_u3.heap.size) (g := g) hb hsv
        exact ⟨hst, ⟨(hcr.below hb).more (by omega), HO.out.trans hst⟩, hv⟩
      · intro n x wv hn ⟨hcr, hco⟩ hd
        have HO := Lib.hid hco
        clear hco
        replace hn : n < 18 := hn
        have hlv := hcr.lt
        have hsv := HO.out.size
        simp [IS, Region.binds] at hd
        obtain ⟨a', b', c', d', e', r, hx⟩ := hd
        refine ⟨?_⟩
        simp only [fill, Act.put, List.setIfInBounds_toArray, List.set_cons_zero, List.set_cons_succ]
        go_simp
        exact ⟨Steady.refl _ _ _, ⟨hcr.more (by omega), HO.out⟩, ⟨_, _, _, _, _, _, rfl⟩⟩
      · intro n x wv hn ⟨hcr, hco⟩ hd
        have HO := Lib.hid hco
        clear hco
        replace hn : n < 18 := hn
        have hlv := hcr.lt
        have hsv := HO.out.size
        simp [IS, Region.binds] at hd
        obtain ⟨a', b', c', d', e', r, hx⟩ := hd
        refine ⟨?_⟩
        simp only [fill, Act.put, List.setIfInBounds_toArray, List.set_cons_zero, List.set_cons_succ]
        go_simp
        exact ⟨Steady.refl _ _ _, ⟨hcr.more (by omega), HO.out⟩, ⟨_, _, _, _, _, rfl⟩⟩
      · intro n x wv hn ⟨hcr, hco⟩ hd
        have HO := Lib.hid hco
        clear hco
        replace hn : n < 18 := hn
        have hlv := hcr.lt
        have hsv := HO.out.size
        simp [IS, Region.binds] at hd
        obtain ⟨a', b', c', d', e', r, hx⟩ := hd
        refine ⟨?_⟩
        simp only [fill, Act.put, List.setIfInBounds_toArray, List.set_cons_zero, List.set_cons_succ]
        go_simp
        exact ⟨Steady.refl _ _ _, ⟨hcr.more (by omega), HO.out⟩, ⟨_, rfl⟩⟩
      · intro n x wv hn ⟨hcr, hco⟩ hd
        have HO := Lib.hid hco
        clear hco
        replace hn : n < 18 := hn
        have hlv := hcr.lt
        have hsv := HO.out.size
        clear hd
        refine ⟨?_⟩
        simp only [fill, Act.put, List.setIfInBounds_toArray, List.set_cons_zero, List.set_cons_succ]
        go_simp
        exact ⟨(Steady.refl _ _ _).alloc _ hsv, ⟨(hcr.below ((Below.refl _ _).alloc (Nat.le_refl _) _)).more (by omega), HO.out.alloc _ hsv⟩, _, rfl, hsv, [.int .i64 0, .int .i64 0, .int .i64 0, .int .i64 0, .int .i64 0], Bk.new _ _ _, ⟨_, rfl⟩, ⟨_, rfl⟩, ⟨_, rfl⟩, ⟨_, rfl⟩, ⟨_, rfl⟩, trivial⟩
      · intro n x wv hn ⟨hcr, hco⟩ hd
        have HO := Lib.hid hco
        clear hco
        replace hn : n < 18 := hn
        have hlv := hcr.lt
        have hsv := HO.out.size
        simp [IS, Region.binds] at hd
        obtain ⟨⟨bx, hx15, hbN, hkb⟩, ⟨a', b', c', d', e', hx13⟩, _⟩ := hd
        obtain ⟨r0, r1, r2, r3, r4, hkx⟩ := hkb.five
        have HK := Lib.hid hkb
        clear hkb
        (try clear hkx_c0); (try clear hkx_f0)
        (try clear hkx_c1); (try clear hkx_f1)
        (try clear hkx_c2); (try clear hkx_f2)
        (try clear hkx_c3); (try clear hkx_f3)
        (try clear hkx_c4); (try clear hkx_f4)
        (try clear hkx_lt)
        have hkx_lt := hkx.lt; (try simp only [World.size_alloc] at hkx_lt)
        have hkx_c0 := hkx.cell 0; have hkx_f0 := hkx.frozen 0
        have hkx_c1 := hkx.cell 1; have hkx_f1 := hkx.frozen 1
        have hkx_c2 := hkx.cell 2; have hkx_f2 := hkx.frozen 2
        have hkx_c3 := hkx.cell 3; have hkx_f3 := hkx.frozen 3
        have hkx_c4 := hkx.cell 4; have hkx_f4 := hkx.frozen 4
        simp only [List.getElem?_toArray, List.getElem?_cons_zero, List.getElem?_cons_succ] at hkx_c0 hkx_c1 hkx_c2 hkx_c3 hkx_c4
        refine ⟨?_⟩
        simp only [fill, Act.put, List.setIfInBounds_toArray, List.set_cons_zero, List.set_cons_succ]
        go_simp
        have hst : Steady w_u3.heap.size g wv (((((wv.setCell ⟨bx, 0, none⟩ (.int .i64 a')).setCell ⟨bx, 1, none⟩ (.int .i64 b')).setCell ⟨bx, 2, none⟩ (.int .i64 c')).setCell ⟨bx, 3, none⟩ (.int .i64 d')).setCell ⟨bx, 4, none⟩ (.int .i64 e')) := by
          repeat (first | with_reducible exact Steady.refl _ _ _ | refine Steady.set_ (T := 31) (ks := [true, true, true, true, true]) (k := true) ?_ hbN (by repeat (first | with_reducible exact HK.out | refine KB.set_ (k := true) ?_ (by rfl) ⟨_, rfl⟩)) (by rfl) ⟨_, rfl⟩)
        exact ⟨hst, ⟨Rd.more (K := K + 3 + 25 * k + 3 + n) (by repeat (first | with_reducible exact hcr | refine Rd.setCell ?_ (by show g < bx; omega) _)) (by omega), HO.out.trans hst⟩, undef, trivial⟩
      · intro n x wv hn ⟨hcr, hco⟩ hd
        have HO := Lib.hid hco
        clear hco
        replace hn : n < 18 := hn
        have hlv := hcr.lt
        have hsv := HO.out.size
        simp [IS, Region.binds] at hd
        obtain ⟨⟨r, hx⟩, _⟩ := hd
        refine ⟨?_⟩
        simp only [fill, Act.put, List.setIfInBounds_toArray, List.set_cons_zero, List.set_cons_succ]
        go_simp
        exact ⟨Steady.refl _ _ _, ⟨hcr.more (by omega), HO.out⟩, ⟨_, rfl⟩⟩
      · intro x wv ⟨hcr, hco⟩ hI
        replace hcr : Rd wv B g (K + 3 + 25 * k + 3 + 18) := hcr
        obtain ⟨bx, hx15, hbN, hkb⟩ := hI 15 (by decide)
        obtain ⟨r, hx17⟩ := hI 17 (by decide)
        obtain ⟨r0, r1, r2, r3, r4, hkx⟩ := hkb.five
        clear hI hkb
        replace hS := hS.steady hco (by omega) (by omega)
        replace hres := hres.steady hco (by omega) (by omega)
        replace hO := hO.trans (hco.only (Nat.le_refl _))
        clear hco hrd_u3
        cases r
        · refine ⟨?_⟩
          simp only [fill, Act.put, List.setIfInBounds_toArray, List.set_cons_zero, List.set_cons_succ, hx15, hx17]
          go_wp2
          go_roundw
          case rel =>
            refine ⟨k + 1, a, b, c, d, e, _, by omega, by go_num, rfl, (by simp only [wrap64_in mm (by omega) (by omega), wrap64_in (z + 1 + mm) (by omega) (by omega), wrap64_in (z + 1 + mm - u3 / 11) (by omega) (by omega)]; omega), (by simp only [wrap64_in mm (by omega) (by omega), wrap64_in (z + 1 + mm) (by omega) (by omega), wrap64_in (z + 1 + mm - u3 / 11) (by omega) (by omega)]; omega), hS, hres, Rd.more (K := K + 3 + 25 * k + 3 + 18) hcr (by omega), hO⟩
          case measure => simp [intOf]; omega
        · skip
          (try clear hkx_c0); (try clear hkx_f0)
          (try clear hkx_c1); (try clear hkx_f1)
          (try clear hkx_c2); (try clear hkx_f2)
          (try clear hkx_c3); (try clear hkx_f3)
          (try clear hkx_c4); (try clear hkx_f4)
          (try clear hkx_lt)
          have hkx_lt := hkx.lt; (try simp only [World.size_alloc] at hkx_lt)
          have hkx_c0 := hkx.cell 0; have hkx_f0 := hkx.frozen 0
          have hkx_c1 := hkx.cell 1; have hkx_f1 := hkx.frozen 1
          have hkx_c2 := hkx.cell 2; have hkx_f2 := hkx.frozen 2
          have hkx_c3 := hkx.cell 3; have hkx_f3 := hkx.frozen 3
          have hkx_c4 := hkx.cell 4; have hkx_f4 := hkx.frozen 4
          simp only [List.getElem?_toArray, List.getElem?_cons_zero, List.getElem?_cons_succ] at hkx_c0 hkx_c1 hkx_c2 hkx_c3 hkx_c4
          (try clear hS_c0); (try clear hS_f0)
          (try clear hS_c1); (try clear hS_f1)
          (try clear hS_c2); (try clear hS_f2)
          (try clear hS_c3); (try clear hS_f3)
          (try clear hS_c4); (try clear hS_f4)
          (try clear hS_lt)
          have hS_lt := hS.lt; (try simp only [World.size_alloc] at hS_lt)
          have hS_c0 := hS.cell 0; have hS_f0 := hS.frozen 0
          have hS_c1 := hS.cell 1; have hS_f1 := hS.frozen 1
          have hS_c2 := hS.cell 2; have hS_f2 := hS.frozen 2
          have hS_c3 := hS.cell 3; have hS_f3 := hS.frozen 3
          have hS_c4 := hS.cell 4; have hS_f4 := hS.frozen 4
          simp only [List.getElem?_toArray, List.getElem?_cons_zero, List.getElem?_cons_succ] at hS_c0 hS_c1 hS_c2 hS_c3 hS_c4
          refine ⟨?_⟩
          simp only [fill, Act.put, List.setIfInBounds_toArray, List.set_cons_zero, List.set_cons_succ, hx15, hx17]
          go_wp2
          go_roundw
          case rel =>
            refine ⟨k + 1, r0, r1, r2, r3, r4, _, by omega, by go_num, rfl, (by simp only [wrap64_in mm (by omega) (by omega), wrap64_in (z + 1 + mm) (by omega) (by omega), wrap64_in (z + 1 + mm - u3 / 11) (by omega) (by omega)]; omega), (by simp only [wrap64_in mm (by omega) (by omega), wrap64_in (z + 1 + mm) (by omega) (by omega), wrap64_in (z + 1 + mm - u3 / 11) (by omega) (by omega)]; omega), ?_, ?_, ?_, ?_⟩
            · simpa using ((((hS.set_ 0 (.int .i64 r0)).set_ 1 (.int .i64 r1)).set_ 2 (.int .i64 r2)).set_ 3 (.int .i64 r3)).set_ 4 (.int .i64 r4)
            · repeat (first | with_reducible exact hres | refine Bk.far ?_ (by show w.heap.size ≠ gs; omega) _)
            · exact Rd.more (K := K + 3 + 25 * k + 3 + 18) (by repeat (first | with_reducible exact hcr | refine Rd.setCell ?_ (by show g < gs; omega) _)) (by omega)
            · repeat (first | with_reducible exact hO | refine Only.setCell ?_ (.inr (by show w.heap.size ≤ gs; omega)) _)
          case measure => simp [intOf]; omega
    · have e0 : decide ((k : Int) < n) = false := by simpa using hlt
      have hkn : k = n := by omega
      subst hkn
      have hSl := hS.lt
      have hrl := hres.lt
      go_wp2_with fail
      go_wp2_with fail
      refine (pick_any _ _ _ _ _ hrd (by omega) (by omega)).mono ?_
      rintro e w_v ⟨v, rfl, v_0, v_1, hrd_v, ho_v, hsz_v⟩
      have v_u := v_1 (by omega)
      have hlt_v := hrd_v.lt
      clear v_1
      replace hO : Only g w w_v := hO.trans ho_v
      replace hS := hS.only ho_v (by first | omega | (simp; done) | (simp; omega))
      (try clear hS_c0); (try clear hS_f0)
      (try clear hS_c1); (try clear hS_f1)
      (try clear hS_c2); (try clear hS_f2)
      (try clear hS_c3); (try clear hS_f3)
      (try clear hS_c4); (try clear hS_f4)
      (try clear hS_lt)
      have hS_lt := hS.lt; (try simp only [World.size_alloc] at hS_lt)
      have hS_c0 := hS.cell 0; have hS_f0 := hS.frozen 0
      have hS_c1 := hS.cell 1; have hS_f1 := hS.frozen 1
      have hS_c2 := hS.cell 2; have hS_f2 := hS.frozen 2
      have hS_c3 := hS.cell 3; have hS_f3 := hS.frozen 3
      have hS_c4 := hS.cell 4; have hS_f4 := hS.frozen 4
      simp only [List.getElem?_toArray, List.getElem?_cons_zero, List.getElem?_cons_succ] at hS_c0 hS_c1 hS_c2 hS_c3 hS_c4
      replace hres := hres.only ho_v (by first | omega | (simp; done) | (simp; omega))
      (try clear hres_c0); (try clear hres_f0)
      (try clear hres_c1); (try clear hres_f1)
      (try clear hres_c2); (try clear hres_f2)
      (try clear hres_c3); (try clear hres_f3)
      (try clear hres_c4); (try clear hres_f4)
      (try clear hres_lt)
      have hres_lt := hres.lt; (try simp only [World.size_alloc] at hres_lt)
      have hres_c0 := hres.cell 0; have hres_f0 := hres.frozen 0
      have hres_c1 := hres.cell 1; have hres_f1 := hres.frozen 1
      have hres_c2 := hres.cell 2; have hres_f2 := hres.frozen 2
      have hres_c3 := hres.cell 3; have hres_f3 := hres.frozen 3
      have hres_c4 := hres.cell 4; have hres_f4 := hres.frozen 4
      simp only [List.getElem?_toArray, List.getElem?_cons_zero, List.getElem?_cons_succ] at hres_c0 hres_c1 hres_c2 hres_c3 hres_c4
      clear ho_v hsz_v hrd
      by_cases h0 : v = 0
      · subst h0
        go_wp2
        refine ⟨rfl, ?_⟩
        apply Exists.intro
        apply And.intro
        · simp [results, Try.results65, go_sem, hres_c0, hres_c1, hres_c2, hres_c3, hres_c4, hS_c0, hS_c1, hS_c2, hS_c3, hS_c4, hres_lt, hS_lt]; exact rfl
        · exact ⟨_, ⟨_, _, _, _, _, rfl⟩, rfl, Rd.more (K := K + 3 + 25 * k + 1) (by repeat (first | with_reducible exact hrd_v | refine Rd.setCell ?_ (by first | (show g < gs; omega) | (show g < w.heap.size; omega)) _)) (by omega), by repeat (first | with_reducible exact hO | refine Only.setCell ?_ (.inr (by first | (show w.heap.size ≤ gs; omega) | exact Nat.le_refl _)) _)⟩
      · have g0 : (v == 0) = false := by simpa using h0
        by_cases h1 : v = 1
        · subst h1
          go_wp2
          refine ⟨rfl, ?_⟩
          apply Exists.intro
          apply And.intro
          · simp [results, Try.results65, go_sem, hres_c0, hres_c1, hres_c2, hres_c3, hres_c4, hS_c0, hS_c1, hS_c2, hS_c3, hS_c4, hres_lt, hS_lt]; exact rfl
          · exact ⟨_, ⟨_, _, _, _, _, rfl⟩, rfl, Rd.more (K := K + 3 + 25 * k + 1) (by repeat (first | with_reducible exact hrd_v | refine Rd.setCell ?_ (by first | (show g < gs; omega) | (show g < w.heap.size; omega)) _)) (by omega), by repeat (first | with_reducible exact hO | refine Only.setCell ?_ (.inr (by first | (show w.heap.size ≤ gs; omega) | exact Nat.le_refl _)) _)⟩
        · have g1 : (v == 1) = false := by simpa using h1
          by_cases h2 : v = 2
          · subst h2
            go_wp2_with fail
            have hnew := Bk.new w_v 3 #[.int .i64 (-1), .int .i64 3200000]
            have hall := fun o => (Below.refl w_v.heap.size w_v).alloc (Nat.le_refl _) o
            go_wp2_with fail
            refine (pick_any _ _ _ _ _ (hrd_v.below (hall _)) (by omega) (by omega)).mono ?_
            rintro e w_u ⟨u, rfl, u_0, u_1, hrd_u, ho_u, hsz_u⟩
            have u_u := u_1 (by omega)
            have hlt_u := hrd_u.lt
            clear u_1
            obtain ⟨k', rfl⟩ := Int.eq_ofNat_of_zero_le u_0
            obtain ⟨z', hz', z0', z1'⟩ := lit_cell [-1, 3200000] (-1) 3200000 (hnew.only ho_u (by omega)) (by decide) (k := k') (by simp; omega)
            replace hO := (hO.trans (Only.of_below (hall _))).trans ho_u
            replace hS := (hS.below (hall _) hS.lt).only ho_u (by omega)
            replace hres := (hres.below (hall _) hres.lt).only ho_u (by omega)
            clear hnew hall ho_u hsz_u hrd_v
            (try clear hS_c0); (try clear hS_f0)
            (try clear hS_c1); (try clear hS_f1)
            (try clear hS_c2); (try clear hS_f2)
            (try clear hS_c3); (try clear hS_f3)
            (try clear hS_c4); (try clear hS_f4)
            (try clear hS_lt)
            have hS_lt := hS.lt; (try simp only [World.size_alloc] at hS_lt)
            have hS_c0 := hS.cell 0; have hS_f0 := hS.frozen 0
            have hS_c1 := hS.cell 1; have hS_f1 := hS.frozen 1
            have hS_c2 := hS.cell 2; have hS_f2 := hS.frozen 2
            have hS_c3 := hS.cell 3; have hS_f3 := hS.frozen 3
            have hS_c4 := hS.cell 4; have hS_f4 := hS.frozen 4
            simp only [List.getElem?_toArray, List.getElem?_cons_zero, List.getElem?_cons_succ] at hS_c0 hS_c1 hS_c2 hS_c3 hS_c4
            (try clear hres_c0); (try clear hres_f0)
            (try clear hres_c1); (try clear hres_f1)
            (try clear hres_c2); (try clear hres_f2)
            (try clear hres_c3); (try clear hres_f3)
            (try clear hres_c4); (try clear hres_f4)
            (try clear hres_lt)
            have hres_lt := hres.lt; (try simp only [World.size_alloc] at hres_lt)
            have hres_c0 := hres.cell 0; have hres_f0 := hres.frozen 0
            have hres_c1 := hres.cell 1; have hres_f1 := hres.frozen 1
            have hres_c2 := hres.cell 2; have hres_f2 := hres.frozen 2
            have hres_c3 := hres.cell 3; have hres_f3 := hres.frozen 3
            have hres_c4 := hres.cell 4; have hres_f4 := hres.frozen 4
            simp only [List.getElem?_toArray, List.getElem?_cons_zero, List.getElem?_cons_succ] at hres_c0 hres_c1 hres_c2 hres_c3 hres_c4
            go_wp2
            refine ⟨rfl, ?_⟩
            apply Exists.intro
            apply And.intro
            · simp [results, Try.results65, go_sem, hres_c0, hres_c1, hres_c2, hres_c3, hres_c4, hS_c0, hS_c1, hS_c2, hS_c3, hS_c4, hres_lt, hS_lt]; exact rfl
            · exact ⟨_, ⟨_, _, _, _, _, rfl⟩, rfl, Rd.more (K := K + 3 + 25 * k + 1 + 1) (by repeat (first | with_reducible exact hrd_u | refine Rd.setCell ?_ (by first | (show g < gs; omega) | (show g < w.heap.size; omega)) _)) (by omega), by repeat (first | with_reducible exact hO | refine Only.setCell ?_ (.inr (by first | (show w.heap.size ≤ gs; omega) | exact Nat.le_refl _)) _)⟩
          · have g2 : (v == 2) = false := by simpa using h2
            go_wp2
            refine ⟨rfl, ?_⟩
            apply Exists.intro
            apply And.intro
            · simp [results, Try.results65, go_sem, hres_c0, hres_c1, hres_c2, hres_c3, hres_c4, hS_c0, hS_c1, hS_c2, hS_c3, hS_c4, hres_lt, hS_lt]; exact rfl
            · exact ⟨_, ⟨_, _, _, _, _, rfl⟩, rfl, Rd.more (K := K + 3 + 25 * k + 1) (by repeat (first | with_reducible exact hrd_v | refine Rd.setCell ?_ (by first | (show g < gs; omega) | (show g < w.heap.size; omega)) _)) (by omega), by repeat (first | with_reducible exact hO | refine Only.setCell ?_ (.inr (by first | (show w.heap.size ≤ gs; omega) | exact Nat.le_refl _)) _)⟩
end Go.Proofs.Ytambjhapnhmmmaa
