/-
  Packets and rings: what is drawn; a packet.
  Conditions: the code's memory.
-/
import Derived.Test.YtjpglpglgkopiaaDoorHdH
import Derived.Test.YtjpglpglgkopiaaDoorDraw
import Derived.Test.YtjpglpglgkopiaaDoorInv
import Derived.Test.YtjpglpglgkopiaaDoorSlots
namespace Go.Proofs.YtjpglpglgkopiaaDoor
open Go.RowKit
set_option linter.unusedVariables false
set_option linter.unusedSimpArgs false

/-- A packet was drawn. -/
def PkDrawn (B g K : Nat) (w : World) (e : Ending) (w' : World) : Prop := ∃ x : Pk, e = .returned (.agg #[.int .i64 x.wi, .int .i64 x.ti, .int .i64 x.la, .int .i64 x.si, .bool x.ky, .bool x.en]) ∧ Rd w' B g K ∧ Only g w w'

set_option maxHeartbeats 8000000 in
theorem l91Packet_any (B g K : Nat) (w : World) (h : Rd w B g K) (hK : K ≤ 1099511620000) :
    Calls Tryd.prog 41 #[.pointer (some ⟨g, 0, none⟩)] w (PkDrawn B g (K + 8) w) := by
  have hl := h.lt
  have hres := Bk.new w 24 #[.int .i64 0, .int .i64 0, .int .i64 0, .int .i64 0, .bool false, .bool false]
  have hall0 := fun o => (Below.refl w.heap.size w).alloc (Nat.le_refl _) o
  go_enter Tryd.func41, Tryd.ntmps41
  go_wp2_with fail
  go_wp2_with fail
  refine (pick_any _ _ _ _ _ (h.below (hall0 _)) (by omega) (by omega)).mono ?_
  rintro e w_pa ⟨pa, rfl, pa_0, pa_1, hrd_pa, ho_pa, hsz_pa⟩
  have pa_u := pa_1 (by omega)
  have hlt_pa := hrd_pa.lt
  clear pa_1
  have m1 : pa * 100 ≤ 24900 := by omega
  go_wp2_with fail
  refine (pick_any _ _ _ _ _ hrd_pa (by omega) (by omega)).mono ?_
  rintro e w_pb ⟨pb, rfl, pb_0, pb_1, hrd_pb, ho_pb, hsz_pb⟩
  have pb_u := pb_1 (by omega)
  have hlt_pb := hrd_pb.lt
  clear pb_1
  have m2 : 30 * pb ≤ 7470 := by omega
  go_wp2_with fail
  refine (pick_any _ _ _ _ _ hrd_pb (by omega) (by omega)).mono ?_
  rintro e w_pc ⟨pc, rfl, pc_0, pc_1, hrd_pc, ho_pc, hsz_pc⟩
  have pc_u := pc_1 (by omega)
  have hlt_pc := hrd_pc.lt
  clear pc_1
  go_wp2_with fail
  refine (pick_any _ _ _ _ _ hrd_pc (by omega) (by omega)).mono ?_
  rintro e w_pd ⟨pd, rfl, pd_0, pd_1, hrd_pd, ho_pd, hsz_pd⟩
  have pd_u := pd_1 (by omega)
  have hlt_pd := hrd_pd.lt
  clear pd_1
  have m3 : pd * 4 ≤ 996 := by omega
  go_wp2_with fail
  refine (pick_any _ _ _ _ _ hrd_pd (by omega) (by omega)).mono ?_
  rintro e w_pe ⟨pe, rfl, pe_0, pe_1, hrd_pe, ho_pe, hsz_pe⟩
  have pe_u := pe_1 (by omega)
  have hlt_pe := hrd_pe.lt
  clear pe_1
  obtain ⟨kb, hkb⟩ : ∃ kb, (pe == 0) = kb := ⟨_, rfl⟩
  go_wp2_with fail
  refine (pick_any _ _ _ _ _ hrd_pe (by omega) (by omega)).mono ?_
  rintro e w_pf ⟨pf, rfl, pf_0, pf_1, hrd_pf, ho_pf, hsz_pf⟩
  have pf_u := pf_1 (by omega)
  have hlt_pf := hrd_pf.lt
  clear pf_1
  obtain ⟨lb, hlb⟩ : ∃ lb, (pf == 0) = lb := ⟨_, rfl⟩
  have hO : Only g w w_pf := ((((((Only.of_below (hall0 _)).trans ho_pa).trans ho_pb).trans ho_pc).trans ho_pd).trans ho_pe).trans ho_pf
  replace hres := hres.only ho_pa (by first | omega | (simp; done) | (simp; omega))
  replace hres := hres.only ho_pb (by first | omega | (simp; done) | (simp; omega))
  replace hres := hres.only ho_pc (by first | omega | (simp; done) | (simp; omega))
  replace hres := hres.only ho_pd (by first | omega | (simp; done) | (simp; omega))
  replace hres := hres.only ho_pe (by first | omega | (simp; done) | (simp; omega))
  replace hres := hres.only ho_pf (by first | omega | (simp; done) | (simp; omega))
  have hsz : w.heap.size < w_pf.heap.size := hres.lt
  clear ho_pa ho_pb ho_pc ho_pd ho_pe ho_pf hsz_pa hsz_pb hsz_pc hsz_pd hsz_pe hsz_pf hrd_pa hrd_pb hrd_pc hrd_pd hrd_pe h hall0
  go_wp2_with fail
  have hx := Bk.new w_pf 24 #[.int .i64 (pa * 100), .int .i64 (30 * pb), .int .i64 pc, .int .i64 (1 + pd * 4), .bool kb, .bool lb]
  have hall := fun o => (Below.refl w_pf.heap.size w_pf).alloc (Nat.le_refl _) o
  go_wp2_with fail
  refine (pick_any _ _ _ _ _ (hrd_pf.below (hall _)) (by omega) (by omega)).mono ?_
  rintro e w_s ⟨s, rfl, s_0, s_1, hrd_s, ho_s, hsz_s⟩
  have s_u := s_1 (by omega)
  have hlt_s := hrd_s.lt
  clear s_1
  replace hO := (hO.trans (Only.of_below (hall _))).trans ho_s
  replace hres := (hres.below (hall _) hres.lt).only ho_s (by omega)
  replace hx := hx.only ho_s (by first | omega | (simp; done) | (simp; omega))
  clear hall ho_s hsz_s hrd_pf
  generalize w_pf.heap.size = gx at *
  by_cases hs0 : s = 0
  · subst hs0
    go_wp2_with fail
    have hnew := Bk.new w_s 3 #[.int .i64 (-1), .int .i64 (999999), .int .i64 (1000000)]
    have hall := fun o => (Below.refl w_s.heap.size w_s).alloc (Nat.le_refl _) o
    go_wp2_with fail
    refine (pick_any _ _ _ _ _ (hrd_s.below (hall _)) (by omega) (by omega)).mono ?_
    rintro e w_u ⟨u, rfl, u_0, u_1, hrd_u, ho_u, hsz_u⟩
    have u_u := u_1 (by omega)
    have hlt_u := hrd_u.lt
    clear u_1
    obtain ⟨k, rfl⟩ := Int.eq_ofNat_of_zero_le u_0
    obtain ⟨z, hz, z0, z1⟩ := lit_cell [-1, 999999, 1000000] (-1) 1000000 (hnew.only ho_u (by omega)) (by decide) (k := k) (by simp; omega)
    replace hO := (hO.trans (Only.of_below (hall _))).trans ho_u
    replace hres := (hres.below (hall _) hres.lt).only ho_u (by omega)
    replace hx := (hx.below (hall _) hx.lt).only ho_u (by omega)
    clear hnew hall ho_u hsz_u hrd_s
    (try clear hres_c0); (try clear hres_f0)
    (try clear hres_c1); (try clear hres_f1)
    (try clear hres_c2); (try clear hres_f2)
    (try clear hres_c3); (try clear hres_f3)
    (try clear hres_c4); (try clear hres_f4)
    (try clear hres_c5); (try clear hres_f5)
    (try clear hres_lt)
    have hres_lt := hres.lt; (try simp only [World.size_alloc] at hres_lt)
    have hres_c0 := hres.cell 0; have hres_f0 := hres.frozen 0
    have hres_c1 := hres.cell 1; have hres_f1 := hres.frozen 1
    have hres_c2 := hres.cell 2; have hres_f2 := hres.frozen 2
    have hres_c3 := hres.cell 3; have hres_f3 := hres.frozen 3
    have hres_c4 := hres.cell 4; have hres_f4 := hres.frozen 4
    have hres_c5 := hres.cell 5; have hres_f5 := hres.frozen 5
    simp only [List.getElem?_toArray, List.getElem?_cons_zero, List.getElem?_cons_succ] at hres_c0 hres_c1 hres_c2 hres_c3 hres_c4 hres_c5
    (try clear hx_c0); (try clear hx_f0)
    (try clear hx_c1); (try clear hx_f1)
    (try clear hx_c2); (try clear hx_f2)
    (try clear hx_c3); (try clear hx_f3)
    (try clear hx_c4); (try clear hx_f4)
    (try clear hx_c5); (try clear hx_f5)
    (try clear hx_lt)
    have hx_lt := hx.lt; (try simp only [World.size_alloc] at hx_lt)
    have hx_c0 := hx.cell 0; have hx_f0 := hx.frozen 0
    have hx_c1 := hx.cell 1; have hx_f1 := hx.frozen 1
    have hx_c2 := hx.cell 2; have hx_f2 := hx.frozen 2
    have hx_c3 := hx.cell 3; have hx_f3 := hx.frozen 3
    have hx_c4 := hx.cell 4; have hx_f4 := hx.frozen 4
    have hx_c5 := hx.cell 5; have hx_f5 := hx.frozen 5
    simp only [List.getElem?_toArray, List.getElem?_cons_zero, List.getElem?_cons_succ] at hx_c0 hx_c1 hx_c2 hx_c3 hx_c4 hx_c5
    go_wp2
    refine ⟨rfl, ?_⟩
    apply Exists.intro
    apply And.intro
    · simp [results, Tryd.results41, go_sem, hres_c0, hres_c1, hres_c2, hres_c3, hres_c4, hres_c5, hx_c0, hx_c1, hx_c2, hx_c3, hx_c4, hx_c5, hres_lt, hx_lt]; exact rfl
    · exact ⟨⟨_, _, _, _, _, _⟩, rfl, Rd.more (K := K + 1 + 1 + 1 + 1 + 1 + 1 + 1 + 1) (by repeat (first | with_reducible exact hrd_u | refine Rd.setCell ?_ (by first | (show g < gx; omega) | (show g < w.heap.size; omega)) _)) (by omega), by repeat (first | with_reducible exact hO | refine Only.setCell ?_ (.inr (by first | (show w.heap.size ≤ gx; omega) | exact Nat.le_refl _)) _)⟩
  · have e0 : (s == 0) = false := by simpa using hs0
    by_cases hs1 : s = 1
    · subst hs1
      go_wp2_with fail
      have hnew := Bk.new w_s 3 #[.int .i64 (-1), .int .i64 (99999), .int .i64 (100000)]
      have hall := fun o => (Below.refl w_s.heap.size w_s).alloc (Nat.le_refl _) o
      go_wp2_with fail
      refine (pick_any _ _ _ _ _ (hrd_s.below (hall _)) (by omega) (by omega)).mono ?_
      rintro e w_u ⟨u, rfl, u_0, u_1, hrd_u, ho_u, hsz_u⟩
      have u_u := u_1 (by omega)
      have hlt_u := hrd_u.lt
      clear u_1
      obtain ⟨k, rfl⟩ := Int.eq_ofNat_of_zero_le u_0
      obtain ⟨z, hz, z0, z1⟩ := lit_cell [-1, 99999, 100000] (-1) 100000 (hnew.only ho_u (by omega)) (by decide) (k := k) (by simp; omega)
      replace hO := (hO.trans (Only.of_below (hall _))).trans ho_u
      replace hres := (hres.below (hall _) hres.lt).only ho_u (by omega)
      replace hx := (hx.below (hall _) hx.lt).only ho_u (by omega)
      clear hnew hall ho_u hsz_u hrd_s
      (try clear hres_c0); (try clear hres_f0)
      (try clear hres_c1); (try clear hres_f1)
      (try clear hres_c2); (try clear hres_f2)
      (try clear hres_c3); (try clear hres_f3)
      (try clear hres_c4); (try clear hres_f4)
      (try clear hres_c5); (try clear hres_f5)
      (try clear hres_lt)
      have hres_lt := hres.lt; (try simp only [World.size_alloc] at hres_lt)
      have hres_c0 := hres.cell 0; have hres_f0 := hres.frozen 0
      have hres_c1 := hres.cell 1; have hres_f1 := hres.frozen 1
      have hres_c2 := hres.cell 2; have hres_f2 := hres.frozen 2
      have hres_c3 := hres.cell 3; have hres_f3 := hres.frozen 3
      have hres_c4 := hres.cell 4; have hres_f4 := hres.frozen 4
      have hres_c5 := hres.cell 5; have hres_f5 := hres.frozen 5
      simp only [List.getElem?_toArray, List.getElem?_cons_zero, List.getElem?_cons_succ] at hres_c0 hres_c1 hres_c2 hres_c3 hres_c4 hres_c5
      (try clear hx_c0); (try clear hx_f0)
      (try clear hx_c1); (try clear hx_f1)
      (try clear hx_c2); (try clear hx_f2)
      (try clear hx_c3); (try clear hx_f3)
      (try clear hx_c4); (try clear hx_f4)
      (try clear hx_c5); (try clear hx_f5)
      (try clear hx_lt)
      have hx_lt := hx.lt; (try simp only [World.size_alloc] at hx_lt)
      have hx_c0 := hx.cell 0; have hx_f0 := hx.frozen 0
      have hx_c1 := hx.cell 1; have hx_f1 := hx.frozen 1
      have hx_c2 := hx.cell 2; have hx_f2 := hx.frozen 2
      have hx_c3 := hx.cell 3; have hx_f3 := hx.frozen 3
      have hx_c4 := hx.cell 4; have hx_f4 := hx.frozen 4
      have hx_c5 := hx.cell 5; have hx_f5 := hx.frozen 5
      simp only [List.getElem?_toArray, List.getElem?_cons_zero, List.getElem?_cons_succ] at hx_c0 hx_c1 hx_c2 hx_c3 hx_c4 hx_c5
      go_wp2
      refine ⟨rfl, ?_⟩
      apply Exists.intro
      apply And.intro
      · simp [results, Tryd.results41, go_sem, hres_c0, hres_c1, hres_c2, hres_c3, hres_c4, hres_c5, hx_c0, hx_c1, hx_c2, hx_c3, hx_c4, hx_c5, hres_lt, hx_lt]; exact rfl
      · exact ⟨⟨_, _, _, _, _, _⟩, rfl, Rd.more (K := K + 1 + 1 + 1 + 1 + 1 + 1 + 1 + 1) (by repeat (first | with_reducible exact hrd_u | refine Rd.setCell ?_ (by first | (show g < gx; omega) | (show g < w.heap.size; omega)) _)) (by omega), by repeat (first | with_reducible exact hO | refine Only.setCell ?_ (.inr (by first | (show w.heap.size ≤ gx; omega) | exact Nat.le_refl _)) _)⟩
    · have e1 : (s == 1) = false := by simpa using hs1
      by_cases hs2 : s = 2
      · subst hs2
        go_wp2_with fail
        have hnew := Bk.new w_s 3 #[.int .i64 (0), .int .i64 (1500), .int .i64 (1501)]
        have hall := fun o => (Below.refl w_s.heap.size w_s).alloc (Nat.le_refl _) o
        go_wp2_with fail
        refine (pick_any _ _ _ _ _ (hrd_s.below (hall _)) (by omega) (by omega)).mono ?_
        rintro e w_u ⟨u, rfl, u_0, u_1, hrd_u, ho_u, hsz_u⟩
        have u_u := u_1 (by omega)
        have hlt_u := hrd_u.lt
        clear u_1
        obtain ⟨k, rfl⟩ := Int.eq_ofNat_of_zero_le u_0
        obtain ⟨z, hz, z0, z1⟩ := lit_cell [0, 1500, 1501] (0) 1501 (hnew.only ho_u (by omega)) (by decide) (k := k) (by simp; omega)
        replace hO := (hO.trans (Only.of_below (hall _))).trans ho_u
        replace hres := (hres.below (hall _) hres.lt).only ho_u (by omega)
        replace hx := (hx.below (hall _) hx.lt).only ho_u (by omega)
        clear hnew hall ho_u hsz_u hrd_s
        (try clear hres_c0); (try clear hres_f0)
        (try clear hres_c1); (try clear hres_f1)
        (try clear hres_c2); (try clear hres_f2)
        (try clear hres_c3); (try clear hres_f3)
        (try clear hres_c4); (try clear hres_f4)
        (try clear hres_c5); (try clear hres_f5)
        (try clear hres_lt)
        have hres_lt := hres.lt; (try simp only [World.size_alloc] at hres_lt)
        have hres_c0 := hres.cell 0; have hres_f0 := hres.frozen 0
        have hres_c1 := hres.cell 1; have hres_f1 := hres.frozen 1
        have hres_c2 := hres.cell 2; have hres_f2 := hres.frozen 2
        have hres_c3 := hres.cell 3; have hres_f3 := hres.frozen 3
        have hres_c4 := hres.cell 4; have hres_f4 := hres.frozen 4
        have hres_c5 := hres.cell 5; have hres_f5 := hres.frozen 5
        simp only [List.getElem?_toArray, List.getElem?_cons_zero, List.getElem?_cons_succ] at hres_c0 hres_c1 hres_c2 hres_c3 hres_c4 hres_c5
        (try clear hx_c0); (try clear hx_f0)
        (try clear hx_c1); (try clear hx_f1)
        (try clear hx_c2); (try clear hx_f2)
        (try clear hx_c3); (try clear hx_f3)
        (try clear hx_c4); (try clear hx_f4)
        (try clear hx_c5); (try clear hx_f5)
        (try clear hx_lt)
        have hx_lt := hx.lt; (try simp only [World.size_alloc] at hx_lt)
        have hx_c0 := hx.cell 0; have hx_f0 := hx.frozen 0
        have hx_c1 := hx.cell 1; have hx_f1 := hx.frozen 1
        have hx_c2 := hx.cell 2; have hx_f2 := hx.frozen 2
        have hx_c3 := hx.cell 3; have hx_f3 := hx.frozen 3
        have hx_c4 := hx.cell 4; have hx_f4 := hx.frozen 4
        have hx_c5 := hx.cell 5; have hx_f5 := hx.frozen 5
        simp only [List.getElem?_toArray, List.getElem?_cons_zero, List.getElem?_cons_succ] at hx_c0 hx_c1 hx_c2 hx_c3 hx_c4 hx_c5
        go_wp2
        refine ⟨rfl, ?_⟩
        apply Exists.intro
        apply And.intro
        · simp [results, Tryd.results41, go_sem, hres_c0, hres_c1, hres_c2, hres_c3, hres_c4, hres_c5, hx_c0, hx_c1, hx_c2, hx_c3, hx_c4, hx_c5, hres_lt, hx_lt]; exact rfl
        · exact ⟨⟨_, _, _, _, _, _⟩, rfl, Rd.more (K := K + 1 + 1 + 1 + 1 + 1 + 1 + 1 + 1) (by repeat (first | with_reducible exact hrd_u | refine Rd.setCell ?_ (by first | (show g < gx; omega) | (show g < w.heap.size; omega)) _)) (by omega), by repeat (first | with_reducible exact hO | refine Only.setCell ?_ (.inr (by first | (show w.heap.size ≤ gx; omega) | exact Nat.le_refl _)) _)⟩
      · have e2 : (s == 2) = false := by simpa using hs2
        by_cases hs3 : s = 3
        · subst hs3
          go_wp2_with fail
          have hnew := Bk.new w_s 3 #[.int .i64 (-1), .int .i64 (3)]
          have hall := fun o => (Below.refl w_s.heap.size w_s).alloc (Nat.le_refl _) o
          go_wp2_with fail
          refine (pick_any _ _ _ _ _ (hrd_s.below (hall _)) (by omega) (by omega)).mono ?_
          rintro e w_u ⟨u, rfl, u_0, u_1, hrd_u, ho_u, hsz_u⟩
          have u_u := u_1 (by omega)
          have hlt_u := hrd_u.lt
          clear u_1
          obtain ⟨k, rfl⟩ := Int.eq_ofNat_of_zero_le u_0
          obtain ⟨z, hz, z0, z1⟩ := lit_cell [-1, 3] (-1) 3 (hnew.only ho_u (by omega)) (by decide) (k := k) (by simp; omega)
          replace hO := (hO.trans (Only.of_below (hall _))).trans ho_u
          replace hres := (hres.below (hall _) hres.lt).only ho_u (by omega)
          replace hx := (hx.below (hall _) hx.lt).only ho_u (by omega)
          clear hnew hall ho_u hsz_u hrd_s
          (try clear hres_c0); (try clear hres_f0)
          (try clear hres_c1); (try clear hres_f1)
          (try clear hres_c2); (try clear hres_f2)
          (try clear hres_c3); (try clear hres_f3)
          (try clear hres_c4); (try clear hres_f4)
          (try clear hres_c5); (try clear hres_f5)
          (try clear hres_lt)
          have hres_lt := hres.lt; (try simp only [World.size_alloc] at hres_lt)
          have hres_c0 := hres.cell 0; have hres_f0 := hres.frozen 0
          have hres_c1 := hres.cell 1; have hres_f1 := hres.frozen 1
          have hres_c2 := hres.cell 2; have hres_f2 := hres.frozen 2
          have hres_c3 := hres.cell 3; have hres_f3 := hres.frozen 3
          have hres_c4 := hres.cell 4; have hres_f4 := hres.frozen 4
          have hres_c5 := hres.cell 5; have hres_f5 := hres.frozen 5
          simp only [List.getElem?_toArray, List.getElem?_cons_zero, List.getElem?_cons_succ] at hres_c0 hres_c1 hres_c2 hres_c3 hres_c4 hres_c5
          (try clear hx_c0); (try clear hx_f0)
          (try clear hx_c1); (try clear hx_f1)
          (try clear hx_c2); (try clear hx_f2)
          (try clear hx_c3); (try clear hx_f3)
          (try clear hx_c4); (try clear hx_f4)
          (try clear hx_c5); (try clear hx_f5)
          (try clear hx_lt)
          have hx_lt := hx.lt; (try simp only [World.size_alloc] at hx_lt)
          have hx_c0 := hx.cell 0; have hx_f0 := hx.frozen 0
          have hx_c1 := hx.cell 1; have hx_f1 := hx.frozen 1
          have hx_c2 := hx.cell 2; have hx_f2 := hx.frozen 2
          have hx_c3 := hx.cell 3; have hx_f3 := hx.frozen 3
          have hx_c4 := hx.cell 4; have hx_f4 := hx.frozen 4
          have hx_c5 := hx.cell 5; have hx_f5 := hx.frozen 5
          simp only [List.getElem?_toArray, List.getElem?_cons_zero, List.getElem?_cons_succ] at hx_c0 hx_c1 hx_c2 hx_c3 hx_c4 hx_c5
          go_wp2
          refine ⟨rfl, ?_⟩
          apply Exists.intro
          apply And.intro
          · simp [results, Tryd.results41, go_sem, hres_c0, hres_c1, hres_c2, hres_c3, hres_c4, hres_c5, hx_c0, hx_c1, hx_c2, hx_c3, hx_c4, hx_c5, hres_lt, hx_lt]; exact rfl
          · exact ⟨⟨_, _, _, _, _, _⟩, rfl, Rd.more (K := K + 1 + 1 + 1 + 1 + 1 + 1 + 1 + 1) (by repeat (first | with_reducible exact hrd_u | refine Rd.setCell ?_ (by first | (show g < gx; omega) | (show g < w.heap.size; omega)) _)) (by omega), by repeat (first | with_reducible exact hO | refine Only.setCell ?_ (.inr (by first | (show w.heap.size ≤ gx; omega) | exact Nat.le_refl _)) _)⟩
        · have e3 : (s == 3) = false := by simpa using hs3
          (try clear hres_c0); (try clear hres_f0)
          (try clear hres_c1); (try clear hres_f1)
          (try clear hres_c2); (try clear hres_f2)
          (try clear hres_c3); (try clear hres_f3)
          (try clear hres_c4); (try clear hres_f4)
          (try clear hres_c5); (try clear hres_f5)
          (try clear hres_lt)
          have hres_lt := hres.lt; (try simp only [World.size_alloc] at hres_lt)
          have hres_c0 := hres.cell 0; have hres_f0 := hres.frozen 0
          have hres_c1 := hres.cell 1; have hres_f1 := hres.frozen 1
          have hres_c2 := hres.cell 2; have hres_f2 := hres.frozen 2
          have hres_c3 := hres.cell 3; have hres_f3 := hres.frozen 3
          have hres_c4 := hres.cell 4; have hres_f4 := hres.frozen 4
          have hres_c5 := hres.cell 5; have hres_f5 := hres.frozen 5
          simp only [List.getElem?_toArray, List.getElem?_cons_zero, List.getElem?_cons_succ] at hres_c0 hres_c1 hres_c2 hres_c3 hres_c4 hres_c5
          (try clear hx_c0); (try clear hx_f0)
          (try clear hx_c1); (try clear hx_f1)
          (try clear hx_c2); (try clear hx_f2)
          (try clear hx_c3); (try clear hx_f3)
          (try clear hx_c4); (try clear hx_f4)
          (try clear hx_c5); (try clear hx_f5)
          (try clear hx_lt)
          have hx_lt := hx.lt; (try simp only [World.size_alloc] at hx_lt)
          have hx_c0 := hx.cell 0; have hx_f0 := hx.frozen 0
          have hx_c1 := hx.cell 1; have hx_f1 := hx.frozen 1
          have hx_c2 := hx.cell 2; have hx_f2 := hx.frozen 2
          have hx_c3 := hx.cell 3; have hx_f3 := hx.frozen 3
          have hx_c4 := hx.cell 4; have hx_f4 := hx.frozen 4
          have hx_c5 := hx.cell 5; have hx_f5 := hx.frozen 5
          simp only [List.getElem?_toArray, List.getElem?_cons_zero, List.getElem?_cons_succ] at hx_c0 hx_c1 hx_c2 hx_c3 hx_c4 hx_c5
          go_wp2
          refine ⟨rfl, ?_⟩
          apply Exists.intro
          apply And.intro
          · simp [results, Tryd.results41, go_sem, hres_c0, hres_c1, hres_c2, hres_c3, hres_c4, hres_c5, hx_c0, hx_c1, hx_c2, hx_c3, hx_c4, hx_c5, hres_lt, hx_lt]; exact rfl
          · exact ⟨⟨_, _, _, _, _, _⟩, rfl, Rd.more (K := K + 1 + 1 + 1 + 1 + 1 + 1 + 1) (by repeat (first | with_reducible exact hrd_s | refine Rd.setCell ?_ (by first | (show g < gx; omega) | (show g < w.heap.size; omega)) _)) (by omega), by repeat (first | with_reducible exact hO | refine Only.setCell ?_ (.inr (by first | (show w.heap.size ≤ gx; omega) | exact Nat.le_refl _)) _)⟩
end Go.Proofs.YtjpglpglgkopiaaDoor
