/-
  Clocks: the draws.
  Conditions: the code's memory.
-/
import Derived.Test.YtambjhapnhmmmaaRows
import Derived.Test.YtambjhapnhmmmaaLib
import Derived.Test.YtambjhapnhmmmaaDraw
import Derived.Test.YtambjhapnhmmmaaClock
namespace Go.Proofs.Ytambjhapnhmmmaa
open Go.RowKit
set_option linter.unusedVariables false

/-- Is a drawn clock in these ranges? -/
def ClockBd (a b c : Int) : Prop := 0 ≤ a ∧ a ≤ 1992 ∧ 0 ≤ b ∧ b ≤ 7470 ∧ -1 ≤ c ∧ c ≤ 90000
def ClockDrawn (B g K : Nat) (w : World) (e : Ending) (w' : World) : Prop :=
  ∃ a b c : Int, ClockBd a b c ∧ e = .returned (.agg #[.int .i64 a, .int .i64 b, .int .i64 c]) ∧ Rd w' B g K ∧ Only g w w'

set_option maxHeartbeats 2000000 in
theorem l92Clock_any (B g K : Nat) (w : World) (h : Rd w B g K) (hK : K ≤ 1099511620000) :
    Calls Try.prog 61 #[.pointer (some ⟨g, 0, none⟩)] w (ClockDrawn B g (K + 7) w) := by
  have hl := h.lt
  have hres := Bk.new w 40 #[.int .i64 0, .int .i64 0, .int .i64 0]
  have hall0 := fun o => (Below.refl w.heap.size w).alloc (Nat.le_refl _) o
  go_enter Try.func61, Try.ntmps61
  go_wp2_with fail
  go_wp2_with fail
  refine (pick_any _ _ _ _ _ (h.below (hall0 _)) (by omega) (by omega)).mono ?_
  rintro e w_p ⟨p, rfl, p_0, p_1, hrd_p, ho_p, hsz_p⟩
  have p_u := p_1 (by omega)
  have hlt_p := hrd_p.lt
  clear p_1
  go_wp2_with fail
  refine (pick_any _ _ _ _ _ hrd_p (by omega) (by omega)).mono ?_
  rintro e w_q ⟨q, rfl, q_0, q_1, hrd_q, ho_q, hsz_q⟩
  have q_u := q_1 (by omega)
  have hlt_q := hrd_q.lt
  clear q_1
  go_wp2_with fail
  refine (pick_any _ _ _ _ _ hrd_q (by omega) (by omega)).mono ?_
  rintro e w_r ⟨r, rfl, r_0, r_1, hrd_r, ho_r, hsz_r⟩
  have r_u := r_1 (by omega)
  have hlt_r := hrd_r.lt
  clear r_1
  have hO : Only g w w_r := (((Only.of_below (hall0 _)).trans ho_p).trans ho_q).trans ho_r
  have hres1 := ((hres.only ho_p (by omega)).only ho_q (by omega)).only ho_r (by omega)
  have hsz0 : w.heap.size + 1 ≤ w_r.heap.size := by
    have h1 := ho_p.size
    have h2 := ho_q.size
    have h3 := ho_r.size
    simp only [World.size_alloc] at h1
    omega
  clear hres ho_p ho_q ho_r hsz_p hsz_q hsz_r hrd_p hrd_q h
  go_wp2_with fail
  have hnew := Bk.new w_r 3 #[.int .i64 1000, .int .i64 8000, .int .i64 90000, .int .i64 333, .int .i64 (1 + r)]
  have hall := fun o => (Below.refl w_r.heap.size w_r).alloc (Nat.le_refl _) o
  go_wp2_with fail
  refine (pick_any _ _ _ _ _ (hrd_r.below (hall _)) (by omega) (by omega)).mono ?_
  rintro e w_s ⟨s, rfl, s_0, s_1, hrd_s, ho_s, hsz_s⟩
  have s_u := s_1 (by omega)
  have hlt_s := hrd_s.lt
  clear s_1
  obtain ⟨k, rfl⟩ := Int.eq_ofNat_of_zero_le s_0
  obtain ⟨z, hz, z0, z1⟩ := lit_cell [1000, 8000, 90000, 333, 1 + r] (-1) 90000 (hnew.only ho_s (by omega)) (by simp; omega) (k := k) (by simp; omega)
  have hres2 := (hres1.below (hall _) (by omega)).only ho_s (by omega)
  have hOs := (hO.trans (Only.of_below (hall _))).trans ho_s
  have hszs : w.heap.size + 1 ≤ w_s.heap.size := by
    have h1 := ho_s.size
    simp only [World.size_alloc] at h1
    omega
  clear hnew hres1 hO ho_s hsz_s hrd_r hsz0
  go_wp2_with fail
  have hall2 := fun o => (Below.refl w_s.heap.size w_s).alloc (Nat.le_refl _) o
  have hcl := Bk.new w_s 40 #[.int .i64 (p * 8), .int .i64 (q * 30), .int .i64 z]
  go_wp2_with fail
  refine (pick_any _ _ _ _ _ (hrd_s.below (hall2 _)) (by omega) (by omega)).mono ?_
  rintro e w_u ⟨u, rfl, u_0, u_1, hrd_u, ho_u, hsz_u⟩
  have u_u := u_1 (by omega)
  have hlt_u := hrd_u.lt
  clear u_1
  have hres3 := (hres2.below (hall2 _) (by omega)).only ho_u (by omega)
  have hcl3 := hcl.only ho_u (by omega)
  have hOu := (hOs.trans (Only.of_below (hall2 _))).trans ho_u
  have hszu : w_s.heap.size + 1 ≤ w_u.heap.size := by
    have h1 := ho_u.size
    simp only [World.size_alloc] at h1
    omega
  clear hcl hres2 hOs ho_u hsz_u hrd_s
  have hrc0 := hres3.cell 0
  have hrc1 := hres3.cell 1
  have hrc2 := hres3.cell 2
  have hrf0 := hres3.frozen 0
  have hrf1 := hres3.frozen 1
  have hrf2 := hres3.frozen 2
  have hcc0 := hcl3.cell 0
  have hcc1 := hcl3.cell 1
  have hcc2 := hcl3.cell 2
  have hcf2 := hcl3.frozen 2
  simp at hrc0 hrc1 hrc2 hcc0 hcc1 hcc2
  by_cases hu : u = 0
  · subst hu
    go_wp2_with fail
    have hnew := Bk.new w_u 3 #[.int .i64 0, .int .i64 (-1)]
    have hall3 := fun o => (Below.refl w_u.heap.size w_u).alloc (Nat.le_refl _) o
    go_wp2_with fail
    refine (pick_any _ _ _ _ _ (hrd_u.below (hall3 _)) (by omega) (by omega)).mono ?_
    rintro e w_v ⟨v, rfl, v_0, v_1, hrd_v, ho_v, hsz_v⟩
    have v_u := v_1 (by omega)
    have hlt_v := hrd_v.lt
    clear v_1
    obtain ⟨k', rfl⟩ := Int.eq_ofNat_of_zero_le v_0
    obtain ⟨z', hz', z0', z1'⟩ := lit_cell [0, -1] (-1) 0 (hnew.only ho_v (by omega)) (by decide) (k := k') (by simp; omega)
    have hres4 := (hres3.below (hall3 _) (by omega)).only ho_v (by omega)
    have hcl4 := (hcl3.below (hall3 _) (by omega)).only ho_v (by omega)
    have hOv := (hOu.trans (Only.of_below (hall3 _))).trans ho_v
    clear hrc0 hrc1 hrc2 hrf0 hrf1 hrf2 hcc0 hcc1 hcc2 hcf2 hres3 hcl3 ho_v hsz_v
    have hrc0 := hres4.cell 0
    have hrc1 := hres4.cell 1
    have hrc2 := hres4.cell 2
    have hrf0 := hres4.frozen 0
    have hrf1 := hres4.frozen 1
    have hrf2 := hres4.frozen 2
    have hcc0 := hcl4.cell 0
    have hcc1 := hcl4.cell 1
    have hcc2 := hcl4.cell 2
    have hcf2 := hcl4.frozen 2
    simp at hrc0 hrc1 hrc2 hcc0 hcc1 hcc2
    go_wp2
    have hres5 := (((hres4.far (p := ⟨w_s.heap.size, 2, none⟩) (by show w.heap.size ≠ w_s.heap.size; omega) (.int .i64 z')).set_ 0 (.int .i64 (p * 8))).set_ 1 (.int .i64 (q * 30))).set_ 2 (.int .i64 z')
    have r0 := hres5.cell 0
    have r1 := hres5.cell 1
    have r2 := hres5.cell 2
    simp at r0 r1 r2
    exact bodyPost_ret (v := .agg #[.int .i64 (p * 8), .int .i64 (q * 30), .int .i64 z']) (by simp [results, Try.results61, go_sem, r0, r1, r2]) rfl ⟨_, _, _, ⟨by omega, by omega, by omega, by omega, by omega, by omega⟩, rfl, ((((hrd_v.setCell (p := ⟨w_s.heap.size, 2, none⟩) (by show g < w_s.heap.size; omega) _).setCell (p := ⟨w.heap.size, 0, none⟩) hl.2 _).setCell (p := ⟨w.heap.size, 1, none⟩) hl.2 _).setCell (p := ⟨w.heap.size, 2, none⟩) hl.2 _).more (by omega), (((hOv.setCell (p := ⟨w_s.heap.size, 2, none⟩) (.inr (by show w.heap.size ≤ w_s.heap.size; omega)) _).setCell (p := ⟨w.heap.size, 0, none⟩) (.inr (Nat.le_refl _)) _).setCell (p := ⟨w.heap.size, 1, none⟩) (.inr (Nat.le_refl _)) _).setCell (p := ⟨w.heap.size, 2, none⟩) (.inr (Nat.le_refl _)) _⟩
  · have e0 : (u == 0) = false := by simpa using hu
    go_wp2
    have hres4 := ((hres3.set_ 0 (.int .i64 (p * 8))).set_ 1 (.int .i64 (q * 30))).set_ 2 (.int .i64 z)
    have r0 := hres4.cell 0
    have r1 := hres4.cell 1
    have r2 := hres4.cell 2
    simp at r0 r1 r2
    exact bodyPost_ret (v := .agg #[.int .i64 (p * 8), .int .i64 (q * 30), .int .i64 z]) (by simp [results, Try.results61, go_sem, r0, r1, r2]) rfl ⟨_, _, _, ⟨by omega, by omega, by omega, by omega, z0, z1⟩, rfl, (((hrd_u.setCell (p := ⟨w.heap.size, 0, none⟩) hl.2 _).setCell (p := ⟨w.heap.size, 1, none⟩) hl.2 _).setCell (p := ⟨w.heap.size, 2, none⟩) hl.2 _).more (by omega), ((hOu.setCell (p := ⟨w.heap.size, 0, none⟩) (.inr (Nat.le_refl _)) _).setCell (p := ⟨w.heap.size, 1, none⟩) (.inr (Nat.le_refl _)) _).setCell (p := ⟨w.heap.size, 2, none⟩) (.inr (Nat.le_refl _)) _⟩

def ClockWallDrawn (w : World) (e : Ending) (w' : World) : Prop :=
  ∃ a b c m : Int, e = .returned (.tuple #[.agg #[.int .i64 a, .int .i64 b, .int .i64 c], .int .i64 m]) ∧ Below w.heap.size w w'

set_option maxHeartbeats 4000000 in
theorem draw_cwall (A : Option Addr) (n c : Nat) (w : World) (h : Bytes w w.heap.size A n) (hnc : n ≤ c) (hc : c ≤ maxLen) :
    Calls Try.prog 27 #[.slice A n c] w (ClockWallDrawn w) := by
  have hres := Bk.new w 40 #[.int .i64 0, .int .i64 0, .int .i64 0]
  have hall0 := fun o => (Below.refl w.heap.size w).alloc (Nat.le_refl _) o
  go_enter Try.func27, Try.ntmps27
  go_wp2_with fail
  refine (open_any A n c _ ((Bytes.below h (hall0 _)).more (by simp)) hnc hc).mono ?_
  rintro e w1 ⟨rfl, hrd, hb⟩
  simp only [World.size_alloc] at hrd hb
  have hres1 := hres.below hb (by omega)
  have hB1 : Below w.heap.size w w1 := (hall0 _).trans (hb.mono (by omega))
  clear hb hres
  go_wp2_with fail
  refine (l92Clock_any _ _ _ _ hrd (by omega)).mono ?_
  rintro e w2 ⟨a, b, c', hbd, rfl, hrd2, ho2⟩
  obtain ⟨b1, b2, b3, b4, b5, b6⟩ := id hbd
  have hlt1 := hrd.lt
  have hres2 := hres1.only ho2 (by omega)
  have hs2 := ho2.size
  have hB2 : Below w.heap.size w w2 := hB1.trans (ho2.below (by omega) (by omega))
  clear ho2 hres1 hrd hB1
  go_wp2_with fail
  have hcl := Bk.new w2 40 #[.int .i64 a, .int .i64 b, .int .i64 c']
  have hall2 := fun o => (Below.refl w2.heap.size w2).alloc (Nat.le_refl _) o
  have hres3 := (hres2.alloc (.cells #[.int .i64 a, .int .i64 b, .int .i64 c'] 40)).drew
  have hrd3 := (hrd2.below (hall2 (.cells #[.int .i64 a, .int .i64 b, .int .i64 c'] 40))).drew
  have hB3 : Below w.heap.size w (w2.alloc (.cells #[.int .i64 a, .int .i64 b, .int .i64 c'] 40)).drew := (by repeat (first | exact Below.refl _ _ | assumption | refine Below.setCell ?_ (by first | omega | (simp; done) | (simp; omega)) _ | refine Below.alloc ?_ (by first | omega | (simp; done) | (simp; omega)) _ | refine Below.drew ?_ | refine Below.drewN' ?_ _ | refine Below.trans ?_ (Below.mono (by assumption) (by first | omega | (simp; done) | (simp; omega)))))
  have hlt2 := hrd2.lt
  have hcl3 := hcl.drew
  clear hres2 hrd2 hall2 hcl hB2
  generalize w2.alloc (.cells #[.int .i64 a, .int .i64 b, .int .i64 c'] 40) = w3 at *
  have hg5 : w.heap.size + 1 < w2.heap.size := by omega
  have hs3 := hrd3.lt
  generalize w2.heap.size = g5 at *
  have c0 := hcl3.cell 0
  have c1 := hcl3.cell 1
  have c2 := hcl3.cell 2
  simp at c0 c1 c2
  have hne : ¬ w.heap.size = g5 := by omega
  have hne' : ¬ g5 = w.heap.size := by omega
  have hmx := fun (w : World) (ts : Array TypeId) (t : TypeId) (x y : Int) => run_max_plain (P := Try.prog) w ts t x y
  go_region_held3 (fun w' => w'.cell? ⟨g5, 0, none⟩ = some (.int .i64 a) ∧ w'.cell? ⟨g5, 1, none⟩ = some (.int .i64 b) ∧ w'.cell? ⟨g5, 2, none⟩ = some (.int .i64 c')) (first | exact ⟨c0, c1, c2⟩ | go_keep)
    (first | (go_at_call 37; refine (pick_any (w.heap.size + 1) (w.heap.size + 1) _ _ _ (by assumption) (by omega) (by omega)).mono ?_; rintro e w5 ⟨r, rfl, r0, r1, hrd5, ho5, hsz5⟩; have r1' := r1 (by omega); have c0 := ho5.cell c0 (by omega); have c1 := ho5.cell c1 (by omega); have c2 := ho5.cell c2 (by omega); have hres3 := hres3.only ho5 (by omega); have hs5 := ho5.size; have hs6 := hrd5.lt; have hB3 := hB3.trans (ho5.below (by omega) (by omega)); have e0 := hres3.cell 0; have e1 := hres3.cell 1; have e2 := hres3.cell 2; have f0 := hres3.frozen 0; have f1 := hres3.frozen 1; have f2 := hres3.frozen 2; simp at e0 e1 e2))
  all_goals
    go_wp2
    have hres5 := ((hres3.set_ 0 (.int .i64 a)).set_ 1 (.int .i64 b)).set_ 2 (.int .i64 c')
    have s0 := hres5.cell 0
    have s1 := hres5.cell 1
    have s2 := hres5.cell 2
    simp at s0 s1 s2
    refine ⟨rfl, ?_⟩
    apply Exists.intro
    apply And.intro
    · simp [results, Try.results27, go_sem, s0, s1, s2]; exact rfl
    · exact ⟨a, b, c', _, rfl, (by repeat (first | exact Below.refl _ _ | assumption | refine Below.setCell ?_ (by first | omega | (simp; done) | (simp; omega)) _ | refine Below.alloc ?_ (by first | omega | (simp; done) | (simp; omega)) _ | refine Below.drew ?_ | refine Below.drewN' ?_ _ | refine Below.trans ?_ (Below.mono (by assumption) (by first | omega | (simp; done) | (simp; omega)))))⟩

end Go.Proofs.Ytambjhapnhmmmaa
