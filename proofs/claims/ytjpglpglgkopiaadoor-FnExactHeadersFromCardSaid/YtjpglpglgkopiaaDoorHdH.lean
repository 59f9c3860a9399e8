/-
  Headers one behind the other: what they are, and the program's reader of them.
  Conditions: as each theorem states them.
-/
import Derived.Test.YtjpglpglgkopiaaDoorHdF
import Derived.Test.YtjpglpglgkopiaaDoorHdC
import Derived.Test.YtjpglpglgkopiaaDoorSet
namespace Go.Proofs.YtjpglpglgkopiaaDoor
open Go.RowKit
set_option linter.unusedVariables false
set_option linter.unusedSimpArgs false

open Classical in
/-- The packets of the bytes, if they can be read. -/
noncomputable def hsR (near : Int) (zs : List Int) : Option (List Pk) :=
  if zs.length % 8 = 0 ∧ zs.length ≤ 160 then (match hs (zs.length / 8) near zs with | some ps => if psOk ps then some ps else none | none => none) else none
theorem hsR_len {near : Int} {zs : List Int} (h : ¬ (zs.length % 8 = 0 ∧ zs.length ≤ 160)) : hsR near zs = none := if_neg h
theorem hsR_some {near : Int} {zs : List Int} {ps : List Pk} (h : hsR near zs = some ps) : psOk ps ∧ zs.length = 8 * ps.length ∧ ps.length ≤ 20 ∧ hs ps.length near zs = some ps := by
  unfold hsR at h
  split at h
  · rename_i h1
    split at h
    · rename_i q hq
      split at h
      · rename_i hok
        injection h with h
        subst h
        have hl := hs_len hq
        refine ⟨hok, by omega, by omega, ?_⟩
        rw [hl]
        exact hq
      · cases h
    · cases h
  · cases h
theorem hsR_of {near : Int} {zs : List Int} {ps : List Pk} {k : Nat} (hl : zs.length = 8 * k) (hk : k ≤ 20) (h : hs k near zs = some ps) (hok : psOk ps) : hsR near zs = some ps := by
  unfold hsR
  rw [if_pos ⟨by omega, by omega⟩, show zs.length / 8 = k by omega, h]
  exact if_pos hok
theorem hsR_bad {near : Int} {zs : List Int} {ps : List Pk} {k : Nat} (hl : zs.length = 8 * k) (hk : k ≤ 20) (h : hs k near zs = some ps) (hok : ¬ psOk ps) : hsR near zs = none := by
  unfold hsR
  rw [if_pos ⟨by omega, by omega⟩, show zs.length / 8 = k by omega, h]
  exact if_neg hok
theorem hsR_none {near : Int} {zs : List Int} {k : Nat} (hl : zs.length = 8 * k) (hk : k ≤ 20) (h : hs k near zs = none) : hsR near zs = none := by
  unfold hsR
  rw [if_pos ⟨by omega, by omega⟩, show zs.length / 8 = k by omega, h]

/-- k headers of N were read. -/
def HsTo (N k : Nat) (near near' : Int) (zs : List Int) (ps : List Pk) : Prop := hs N near zs = (hs (N - k) near' (zs.drop (8 * k))).map (ps ++ ·)
theorem HsTo.start (N : Nat) (near : Int) (zs : List Int) : HsTo N 0 near near zs [] := by
  unfold HsTo
  simp
theorem HsTo.step {N k : Nat} {near near' : Int} {zs : List Int} {ps : List Pk} {p : Pk} (h : HsTo N k near near' zs ps) (hk : k < N) (hp : hd near' ((zs.drop (8 * k)).take 8) = some p) : HsTo N (k + 1) near p.wi zs (ps ++ [p]) := by
  unfold HsTo at h ⊢
  rw [h, show N - k = (N - (k + 1)) + 1 by omega]
  simp only [hs, hp]
  rw [List.drop_drop, show 8 * k + 8 = 8 * (k + 1) by omega]
  cases hs (N - (k + 1)) p.wi (zs.drop (8 * (k + 1))) with
  | none => rfl
  | some qs => simp
theorem HsTo.stop {N k : Nat} {near near' : Int} {zs : List Int} {ps : List Pk} (h : HsTo N k near near' zs ps) (hk : k < N) (hp : hd near' ((zs.drop (8 * k)).take 8) = none) : hs N near zs = none := by
  unfold HsTo at h
  rw [h, show N - k = (N - (k + 1)) + 1 by omega]
  simp only [hs, hp, Option.map_none]
theorem HsTo.done {N : Nat} {near near' : Int} {zs : List Int} {ps : List Pk} (h : HsTo N N near near' zs ps) (hl : zs.length = 8 * N) : hs N near zs = some ps := by
  unfold HsTo at h
  rw [h, Nat.sub_self, List.drop_eq_nil_of_le (by omega)]
  simp [hs]

theorem one_pks (xs : List Pk) : ∀ u ∈ xs.flatMap Pk.c, u.oneCell' = true := by
  intro u hu
  obtain ⟨x, -, hx⟩ := List.mem_flatMap.1 hu
  simp [Pk.c] at hx
  rcases hx with rfl | rfl | rfl | rfl | rfl | rfl <;> rfl
theorem one_pk (x : Pk) : ∀ u ∈ x.c, u.oneCell' = true := fun u hu => one_pks [x] u (by simpa using hu)
theorem pki_info : (Tryd.prog.info? 24).map (fun i => (i.zero, i.size, i.bytes)) = some (some (.agg #[.int .i64 0, .int .i64 0, .int .i64 0, .int .i64 0, .bool false, .bool false]), 6, 40) := by kernel_rfl

/-- The headers were read. -/
structure HrYes (g : Nat) (ps : List Pk) (w : World) (e : Ending) (w' : World) : Prop where
  out : ∃ v, e = .returned (.tuple #[v, .nilIface]) ∧ w'.ownsRow w.heap.size 24 6 v ps.length (ps.flatMap Pk.c)
  only : Only g w w'

set_option maxHeartbeats 8000000 in
set_option maxRecDepth 100000 in
theorem hdr_any (g N n c : Nat) (near : Int) (A : Option Addr) (zs : List Int) (w : World) (hb : Bk w g 54 #[.slice A n c, .int .i64 ((0 : Nat) : Int)]) (hz : Ints w g A n zs) (hN : n = 8 * N) (hN20 : N ≤ 20) :
    Calls Tryd.prog 49 #[.pointer (some ⟨g, 0, none⟩), .int .i64 near] w fun e w' => (∀ ps, hsR near zs = some ps → HrYes g ps w e w') ∧ (hsR near zs = none → ErrOf g (.slice none 0 0) w e w') := by
  have hgw := hb.lt
  obtain ⟨i0, hi0, hz0, hz1, hz2⟩ := info_parts pki_info
  have HL := Lib.hid (show zs.length = 8 * N by rw [hz.len]; exact hN)
  have HE := Lib.hid (own_empty w w.heap.size 24 6 (Nat.le_refl _))
  have hO0 : Only g w (w.alloc (.cells #[] 24)) := (Only.refl g w).alloc _
  have hb0 := hb.alloc (.cells #[] 24)
  have HNN := Lib.hid hN
  have hn160 : n ≤ 160 := by omega
  clear hN
  go_enter Tryd.func49, Tryd.ntmps49
  go_wp2
  go_loopw [1, 6] (fun nr v wr => ∃ (k p : Nat) (near' : Int) (ps : List Pk), k ≤ N ∧ p = 8 * k ∧ nr = .int .i64 near' ∧ ps.length = k ∧ HsTo N k near near' zs ps ∧ wr.ownsRow w.heap.size 24 6 v k (ps.flatMap Pk.c) ∧ Bk wr g 54 #[.slice A n c, .int .i64 p] ∧ Only g w wr) (fun _ _ wr => n - (intOf ((wr.cell? ⟨g, 1, none⟩).getD undef)).toNat)
  case atStart => exact ⟨0, 0, near, [], by omega, rfl, rfl, rfl, HsTo.start _ _ _, by simpa using HE.out, hb0, hO0⟩
  case round =>
    clear hb0 hO0 hb
    obtain ⟨k, p, near', ps, hk, hp, rfl, hps, hto, hown, hbk, ho⟩ := hrel
    have hrsz := ho.size
    have hgr : g < wr.heap.size := hbk.lt
    have HZ := Lib.hid (show Ints wr g A n zs from Sl.only hz ho (Nat.le_refl _) (Nat.le_of_lt hgw))
    have HTO := Lib.hid hto
    have HPS := Lib.hid hps
    have HPP := Lib.hid hp
    have HB := Lib.hid hbk
    have HOW := Lib.hid hown
    have HMS := Lib.hid (show (wr.cell? ⟨g, 1, none⟩) = some (.int .i64 p) from by simpa using hbk.cell 1)
    by_cases hlt : k < N
    · have hpn : p + 8 ≤ n := by have := HNN.out; omega
      have e0 : decide ((p : Int) < (n : Int)) = true := by simp; omega
      have e1 : decide (p < n) = true := by simp; omega
      (try clear hbk_c0); (try clear hbk_f0)
      (try clear hbk_c1); (try clear hbk_f1)
      (try clear hbk_lt)
      have hbk_lt := hbk.lt; (try simp only [World.size_alloc] at hbk_lt)
      have hbk_c0 := hbk.cell 0; have hbk_f0 := hbk.frozen 0
      have hbk_c1 := hbk.cell 1; have hbk_f1 := hbk.frozen 1
      simp only [List.getElem?_toArray, List.getElem?_cons_zero, List.getElem?_cons_succ] at hbk_c0 hbk_c1
      clear hto hps hp hown hbk
      go_wp2
      go_quiet (fail)
      go_wp2_with fail
      refine (pkt_any g p n c near' A zs _ (HB.out.drewN nq) HZ.out (by omega) (by omega)).mono ?_
      rintro e w1 ⟨hy, hx⟩
      rw [HPP.out] at hy hx
      cases hq : hd near' ((zs.drop (8 * k)).take 8) with
      | none =>
        obtain ⟨a, rfl, ho1⟩ := hx hq
        have HNO := Lib.hid (hsR_none HL.out hN20 (HTO.out.stop hlt hq))
        have ho2 : Only g w w1 := (ho.drewN nq).trans ho1
        clear hy hx hq ho1
        go_wp2
        go_ret2
        exact ⟨fun ps h => absurd (HNO.out.symm.trans h) (by simp), fun _ => ⟨a, rfl, ho2.alloc _⟩⟩
      | some x =>
        obtain ⟨rfl, hbk1, ho1⟩ := hy x hq
        rw [← HPP.out] at hbk1
        have HTN := Lib.hid (HTO.out.step hlt hq)
        have ho2 : Only g w w1 := (ho.drewN nq).trans ho1
        have HO1 := Lib.hid (own_only (show (wr.drewN nq).ownsRow w.heap.size 24 6 _ k (ps.flatMap Pk.c) from HOW.out) ho1 hgw)
        have hs1 : w.heap.size ≤ w1.heap.size := ho2.size
        have hv := Bk.new w1 24 #[.int .i64 x.wi, .int .i64 x.ti, .int .i64 x.la, .int .i64 x.si, .bool x.ky, .bool x.en]
        have HV := Lib.hid hv
        have HNB := Lib.hid (show Sl ((w1.alloc (.cells #[.int .i64 x.wi, .int .i64 x.ti, .int .i64 x.la, .int .i64 x.si, .bool x.ky, .bool x.en] 24)).alloc (.cells #[.int .i64 x.wi, .int .i64 x.ti, .int .i64 x.la, .int .i64 x.si, .bool x.ky, .bool x.en] 24)) (w1.heap.size + 1 + 1) 6 (some ⟨w1.heap.size + 1, 0, none⟩) 1 x.c from ⟨rfl, fun _ => ⟨w1.heap.size + 1, 0, rfl, by omega, fun j u hu => by
          rw [Nat.zero_add, (bk_new2 w1 _ _ _).cell j]; simpa [Pk.c] using hu⟩⟩)
        clear hy hx hq hv
        go_wp2_with (at_builtin; refine wpList_app _ rfl _ _ 40 rfl w.heap.size 24 i0 (.agg #[.int .i64 0, .int .i64 0, .int .i64 0, .int .i64 0, .bool false, .bool false]) 6 40 Tryd.underlying40 hi0 hz0 hz1 hz2 rfl (by omega) _ k _ rfl ((HO1.out.alloc _).alloc _) (w1.heap.size + 1 + 1) (some ⟨w1.heap.size + 1, 0, none⟩) 1 1 _ rfl HNB.out (one_pk x) (by unfold maxLen; omega) (by omega) (by simp; omega) ?_; intro v3 w3 hown3 hgrow hat; have hv3 := (HV.out.alloc (.cells #[.int .i64 x.wi, .int .i64 x.ti, .int .i64 x.la, .int .i64 x.si, .bool x.ky, .bool x.en] 24)).grown hgrow (fun he => by have := (HO1.out.lt _ he.symm).2; omega); have hc3 := hv3.cell 0; simp only [List.getElem?_toArray, List.getElem?_cons_zero] at hc3; clear hv3)
        have hbk3 := ((hbk1.alloc (.cells #[.int .i64 x.wi, .int .i64 x.ti, .int .i64 x.la, .int .i64 x.si, .bool x.ky, .bool x.en] 24)).alloc (.cells #[.int .i64 x.wi, .int .i64 x.ti, .int .i64 x.la, .int .i64 x.si, .bool x.ky, .bool x.en] 24)).grown hgrow (fun he => by have := (HO1.out.lt _ he.symm).1; omega)
        have ho3 : Only g w w3 := Only.grown_own ((ho2.alloc _).alloc _) hgrow ((HO1.out.alloc _).alloc _) (Nat.le_refl _)
        have HB3 := Lib.hid hbk3
        have HM3 := Lib.hid (show (w3.cell? ⟨g, 1, none⟩) = some (.int .i64 ((p + 8 : Nat) : Int)) from by simpa using hbk3.cell 1)
        have HO3 := Lib.hid (show w3.ownsRow w.heap.size 24 6 v3 (k + 1) ((ps ++ [x]).flatMap Pk.c) by rw [List.flatMap_append]; simpa using hown3)
        clear hbk3 hown3 hgrow hat hbk1 hc3
        go_wp2
        go_roundw
        case rel => exact ⟨k + 1, p + 8, x.wi, ps ++ [x], by omega, by have := HPP.out; omega, rfl, by simp [HPS.out], HTN.out, HO3.out, HB3.out, ho3⟩
        case measure => rw [HM3.out, HMS.out]; simp [intOf]; omega
    · have hkn : k = N := by omega
      subst hkn
      have e0 : decide ((p : Int) < (n : Int)) = false := by have := HNN.out; simp; omega
      have e1 : decide (p < n) = false := by have := HNN.out; simp; omega
      have HD := Lib.hid (HTO.out.done HL.out)
      (try clear hbk_c0); (try clear hbk_f0)
      (try clear hbk_c1); (try clear hbk_f1)
      (try clear hbk_lt)
      have hbk_lt := hbk.lt; (try simp only [World.size_alloc] at hbk_lt)
      have hbk_c0 := hbk.cell 0; have hbk_f0 := hbk.frozen 0
      have hbk_c1 := hbk.cell 1; have hbk_f1 := hbk.frozen 1
      simp only [List.getElem?_toArray, List.getElem?_cons_zero, List.getElem?_cons_succ] at hbk_c0 hbk_c1
      obtain ⟨A2, c2, rfl, -, -, hsl⟩ := own_shape hown
      have HPK := Lib.hid (show Pks wr wr.heap.size A2 k ps from hsl)
      clear hto hps hp hown hbk hsl
      go_wp2
      go_quiet (fail)
      go_wp2_with fail
      refine (ips_any A2 k c2 ps (wr.drewN nq) (show Pks (wr.drewN nq) (wr.drewN nq).heap.size A2 k ps from HPK.out) (by omega)).mono ?_
      rintro e w1 ⟨rfl, hb1⟩
      have ho2 : Only g w w1 := (ho.drewN nq).trans (Only.of_below hb1)
      have hs1 : wr.heap.size ≤ w1.heap.size := hb1.size
      have HO1 := Lib.hid (own_below (show (wr.drewN nq).ownsRow w.heap.size 24 6 _ k (ps.flatMap Pk.c) from HOW.out) hb1)
      have hbk1 := Bk.below (HB.out.drewN nq) hb1 hgr
      (try clear hbk_c0); (try clear hbk_f0)
      (try clear hbk_c1); (try clear hbk_f1)
      (try clear hbk_lt)
      clear hb1
      cases hq : psB ps with
      | true =>
        have HY := Lib.hid (hsR_of HL.out hN20 HD.out (psB_true.1 hq))
        clear hq
        go_wp2
        go_ret2
        refine ⟨fun qs h => ?_, fun h => absurd (HY.out.symm.trans h) (by simp)⟩
        obtain rfl := Option.some.inj (HY.out.symm.trans h)
        exact ⟨⟨_, rfl, by rw [HPS.out]; exact HO1.out⟩, ho2⟩
      | false =>
        have HY := Lib.hid (hsR_bad HL.out hN20 HD.out (psB_false.1 hq))
        clear hq
        (try clear hbk1_c0); (try clear hbk1_f0)
        (try clear hbk1_c1); (try clear hbk1_f1)
        (try clear hbk1_lt)
        have hbk1_lt := hbk1.lt; (try simp only [World.size_alloc] at hbk1_lt)
        have hbk1_c0 := hbk1.cell 0; have hbk1_f0 := hbk1.frozen 0
        have hbk1_c1 := hbk1.cell 1; have hbk1_f1 := hbk1.frozen 1
        simp only [List.getElem?_toArray, List.getElem?_cons_zero, List.getElem?_cons_succ] at hbk1_c0 hbk1_c1
        go_wp2
        go_region
        go_wp2
        go_ret2
        exact ⟨fun qs h => absurd (HY.out.symm.trans h) (by simp), fun _ => ⟨_, rfl, by
          repeat (first | with_reducible exact ho2 | refine Only.alloc ?_ _ | refine Only.drewN ?_ _ | refine Only.drew ?_)⟩⟩
end Go.Proofs.YtjpglpglgkopiaaDoor
