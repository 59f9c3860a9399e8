/-
  HeadersFrom of the reference.
  Conditions: the slice's memory.
-/
import Derived.Test.YtjpglpglgkopiaaDoorHdG
namespace Go.Proofs.YtjpglpglgkopiaaDoor
open Go.RowKit
set_option linter.unusedVariables false
set_option linter.unusedSimpArgs false

/-- Eight numbers of a slice. -/
theorem Ints.part {w : World} {B n p b off : Nat} {zs : List Int} (h : Ints w B (some ⟨b, off, none⟩) n zs) (hp : p + 8 ≤ n) : Ints w B (some ⟨b, off + p, none⟩) 8 ((zs.drop p).take 8) := by
  have hl := h.len
  refine ⟨by simp; omega, fun _ => ?_⟩
  obtain ⟨b', off', e, hb, hc⟩ := h.2 (by omega)
  injection e with e
  injection e with e1 e2
  subst e1 e2
  refine ⟨b, off + p, rfl, hb, fun j u hu => ?_⟩
  rw [List.getElem?_map, List.getElem?_take] at hu
  split at hu
  · rw [List.getElem?_drop] at hu
    have := hc (p + j) u (by rw [List.getElem?_map]; exact hu)
    rwa [← Nat.add_assoc] at this
  · cases hu

set_option maxHeartbeats 8000000 in
set_option maxRecDepth 100000 in
theorem shx_any (near : Int) (n c : Nat) (A : Option Addr) (zs : List Int) (w : World) (hz : Ints w w.heap.size A n zs) (hn : n ≤ 1099511627776) (hnc : n ≤ c) (hcm : c ≤ maxLen) :
    Calls Tryd.prog 29 #[.int .i64 near, .slice A n c] w (HxRet near zs w) := by
  unfold maxLen at hcm
  have HL := Lib.hid hz.len
  have hB0 : Below w.heap.size w (w.alloc (.cells #[] 24)) := (Below.refl w.heap.size w).alloc (Nat.le_refl _) _
  rcases len_cases n with ⟨N, hN, hN20⟩ | hbad
  rotate_left
  · have HQ := Lib.hid (hsR_len (near := near) (zs := zs) (by rw [HL.out]; exact hbad))
    by_cases h8 : n % 8 = 0
    · have e1 : ((n : Int) % 8 != 0) = false := by simp; omega
      have e2 : (n % 8 != 0) = false := by simp; omega
      have e3 : decide ((160 : Int) < (n : Int)) = true := by simp; omega
      have e4 : decide (160 < n) = true := by simp; omega
      clear hbad h8
      go_enter Tryd.func29, Tryd.ntmps29
      go_wp2
      go_ret2
      exact ⟨fun ps h => absurd (HQ.out.symm.trans h) (by simp), fun _ => ⟨⟨_, _, rfl⟩, hB0⟩⟩
    · have e1 : ((n : Int) % 8 != 0) = true := by simp; omega
      have e2 : (n % 8 != 0) = true := by simp; omega
      clear hbad h8
      go_enter Tryd.func29, Tryd.ntmps29
      go_wp2
      go_ret2
      exact ⟨fun ps h => absurd (HQ.out.symm.trans h) (by simp), fun _ => ⟨⟨_, _, rfl⟩, hB0⟩⟩
  have e1 : ((n : Int) % 8 != 0) = false := by simp; omega
  have e2 : (n % 8 != 0) = false := by simp; omega
  have e3 : decide ((160 : Int) < (n : Int)) = false := by simp; omega
  have e4 : decide (160 < n) = false := by simp; omega
  obtain ⟨i0, hi0, hz0, hz1, hz2⟩ := info_parts pki_info
  have HE := Lib.hid (own_empty w w.heap.size 24 6 (Nat.le_refl _))
  have HLL := Lib.hid (show zs.length = 8 * N by rw [HL.out]; exact hN)
  have HNN := Lib.hid hN
  have hn160 : n ≤ 160 := by omega
  clear hN
  go_enter Tryd.func29, Tryd.ntmps29
  go_wp2
  clear e1 e2 e3 e4
  go_loopw [0, 6, 7] (fun nr v i wr => ∃ (k p : Nat) (near' : Int) (ps : List Pk), k ≤ N ∧ p = 8 * k ∧ i = .int .i64 p ∧ nr = .int .i64 near' ∧ ps.length = k ∧ HsTo N k near near' zs ps ∧ wr.ownsRow w.heap.size 24 6 v k (ps.flatMap Pk.c) ∧ Below w.heap.size w wr) (fun _ _ i _ => n - (intOf i).toNat)
  case atStart => exact ⟨0, 0, near, [], by omega, rfl, rfl, rfl, rfl, HsTo.start _ _ _, by simpa using HE.out, hB0⟩
  case round =>
    clear HE hB0
    obtain ⟨k, p, near', ps, hk, hp, rfl, rfl, hps, hto, hown, hB⟩ := hrel
    have hrsz := hB.size
    have HTO := Lib.hid hto
    have HPS := Lib.hid hps
    have HPP := Lib.hid hp
    have HOW := Lib.hid hown
    by_cases hlt : k < N
    · have hpn : p + 8 ≤ n := by have := HNN.out; omega
      have e0 : decide ((p : Int) < (n : Int)) = true := by simp; omega
      have e1 : decide (p < n) = true := by simp; omega
      have hpc : p + 8 ≤ c := by omega
      obtain ⟨b, off, rfl, hb, -⟩ := hz.at_ (by omega)
      have HZ := Lib.hid (((hz.part hpn).below hB).more hrsz)
      clear hto hps hp hown
      go_wp2_with fail
      refine (shf_any near' 8 (c - p) _ ((zs.drop p).take 8) wr HZ.out (by omega)).mono ?_
      rintro e w1 ⟨hy, hx⟩
      rw [HPP.out] at hy hx
      cases hq : hd near' ((zs.drop (8 * k)).take 8) with
      | none =>
        obtain ⟨rfl, hb1⟩ := hx hq
        have HNO := Lib.hid (hsR_none HLL.out hN20 (HTO.out.stop hlt hq))
        have hB1 : Below w.heap.size w w1 := hB.trans (hb1.mono hrsz)
        have hs1 := hB1.size
        clear hy hx hq hb1
        go_wp2
        go_ret2
        exact ⟨fun ps h => absurd (HNO.out.symm.trans h) (by simp), fun _ => ⟨⟨_, _, rfl⟩, Below.alloc (Below.alloc hB1 hs1 _) (by simp; omega) _⟩⟩
      | some x =>
        obtain ⟨rfl, hb1⟩ := hy x hq
        have HTN := Lib.hid (HTO.out.step hlt hq)
        have hB1 : Below w.heap.size w w1 := hB.trans (hb1.mono hrsz)
        have hs1 := hB1.size
        have HO1 := Lib.hid (own_below HOW.out hb1)
        have HV := Lib.hid (Bk.new w1 24 #[.int .i64 x.wi, .int .i64 x.ti, .int .i64 x.la, .int .i64 x.si, .bool x.ky, .bool x.en])
        have HNB := Lib.hid (show Sl ((w1.alloc (.cells #[.int .i64 x.wi, .int .i64 x.ti, .int .i64 x.la, .int .i64 x.si, .bool x.ky, .bool x.en] 24)).alloc (.cells #[.int .i64 x.wi, .int .i64 x.ti, .int .i64 x.la, .int .i64 x.si, .bool x.ky, .bool x.en] 24)) (w1.heap.size + 1 + 1) 6 (some ⟨w1.heap.size + 1, 0, none⟩) 1 x.c from ⟨rfl, fun _ => ⟨w1.heap.size + 1, 0, rfl, by omega, fun j u hu => by
          rw [Nat.zero_add, (bk_new2 w1 _ _ _).cell j]; simpa [Pk.c] using hu⟩⟩)
        clear hy hx hq hb1
        go_wp2_with (at_builtin; refine wpList_app _ rfl _ _ 40 rfl w.heap.size 24 i0 (.agg #[.int .i64 0, .int .i64 0, .int .i64 0, .int .i64 0, .bool false, .bool false]) 6 40 Tryd.underlying40 hi0 hz0 hz1 hz2 rfl (by omega) _ k _ rfl ((HO1.out.alloc _).alloc _) (w1.heap.size + 1 + 1) (some ⟨w1.heap.size + 1, 0, none⟩) 1 1 _ rfl HNB.out (one_pk x) (by unfold maxLen; omega) (by omega) (by simp; omega) ?_; intro v3 w3 hown3 hgrow hat; have hv3 := (HV.out.alloc (.cells #[.int .i64 x.wi, .int .i64 x.ti, .int .i64 x.la, .int .i64 x.si, .bool x.ky, .bool x.en] 24)).grown hgrow (fun he => by have := (HO1.out.lt _ he.symm).2; omega); have hc3 := hv3.cell 0; simp only [List.getElem?_toArray, List.getElem?_cons_zero] at hc3; clear hv3)
        have hB3 : Below w.heap.size w w3 := Below.grown_own (Below.alloc (Below.alloc hB1 hs1 _) (by simp; omega) _) hgrow ((HO1.out.alloc _).alloc _) (Nat.le_refl _) (by simp; omega)
        have HO3 := Lib.hid (show w3.ownsRow w.heap.size 24 6 v3 (k + 1) ((ps ++ [x]).flatMap Pk.c) by rw [List.flatMap_append]; simpa using hown3)
        clear hown3 hgrow hat hc3
        go_wp2
        go_roundw
        case rel => exact ⟨k + 1, p + 8, x.wi, ps ++ [x], by omega, by have := HPP.out; omega, by go_num, rfl, by simp [HPS.out], HTN.out, HO3.out, hB3⟩
        case measure => simp [intOf]; omega
    · have hkn : k = N := by omega
      subst hkn
      have e0 : decide ((p : Int) < (n : Int)) = false := by have := HNN.out; simp; omega
      have e1 : decide (p < n) = false := by have := HNN.out; simp; omega
      have HD := Lib.hid (HTO.out.done HLL.out)
      obtain ⟨A2, c2, rfl, -, -, hsl⟩ := own_shape hown
      have HPK := Lib.hid (show Pks wr wr.heap.size A2 k ps from hsl)
      clear hto hps hp hown hsl
      go_wp2_with fail
      refine (sps_any A2 k c2 ps wr HPK.out (by omega)).mono ?_
      rintro e w1 ⟨rfl, hb1⟩
      have hB1 : Below w.heap.size w w1 := hB.trans (hb1.mono hrsz)
      have hs1 := hB1.size
      have HO1 := Lib.hid (own_below HOW.out hb1)
      clear hb1
      cases hq : psB ps with
      | true =>
        have HY := Lib.hid (hsR_of HLL.out hN20 HD.out (psB_true.1 hq))
        clear hq
        go_wp2
        go_ret2
        refine ⟨fun qs h => ?_, fun h => absurd (HY.out.symm.trans h) (by simp)⟩
        obtain rfl := Option.some.inj (HY.out.symm.trans h)
        exact ⟨⟨A2, c2, by rw [HPS.out]; rfl, by rw [HPS.out]; exact HO1.out⟩, hB1⟩
      | false =>
        have HY := Lib.hid (hsR_bad HLL.out hN20 HD.out (psB_false.1 hq))
        clear hq
        go_wp2
        go_ret2
        exact ⟨fun qs h => absurd (HY.out.symm.trans h) (by simp), fun _ => ⟨⟨_, _, rfl⟩, Below.alloc hB1 hs1 _⟩⟩
end Go.Proofs.YtjpglpglgkopiaaDoor
