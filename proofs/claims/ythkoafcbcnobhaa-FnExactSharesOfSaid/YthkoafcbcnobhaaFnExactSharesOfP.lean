/-
  The statement FnExactSharesOf: the law returns true for every input, and what was there before the call has not turned.
  No condition beyond the given statement.
-/
import Derived.Test.YthkoafcbcnobhaaRows
import Derived.WalkKit
import Derived.ProofKit
import Derived.OpenShut
import Derived.ShutString
import Derived.ChangeOld
import Derived.Below
import Derived.Test.YthkoafcbcnobhaaDemV
import Derived.Test.YthkoafcbcnobhaaCost
import Derived.Test.YthkoafcbcnobhaaNext
import Derived.Test.YthkoafcbcnobhaaSeqD
import Derived.Test.YthkoafcbcnobhaaOpenD
import Derived.Test.YthkoafcbcnobhaaInts
import Derived.Test.YthkoafcbcnobhaaBut
import Derived.Test.YthkoafcbcnobhaaShG
import Derived.Test.YthkoafcbcnobhaaIntM
namespace Go.Proofs.Ythkoafcbcnobhaa.fnExactSharesOf
open Go.ChangeShapes Go.WideShapes Go.ChangeAt Go.RowKit
set_option linter.unusedVariables false
set_option linter.unusedSimpArgs false

theorem own : ownKnob Try.prog.godebug = none := by kernel_rfl
theorem laidOut : laidOutB Try.prog = true := by kernel_rfl

def ShAny (T : TypeId) (L : List Int) (ok : Bool) (N : Nat) (w : World) (e : Ending) (w' : World) : Prop := ∃ A' c', e = .returned (.tuple #[.slice A' N c', .bool ok]) ∧ w'.ownsRow w.heap.size T 1 (.slice A' N c') N (L.map (Value.int .i64)) ∧ Below w.heap.size w w'
theorem ShPost.any {T : TypeId} {xs : List Dm} {bud : Int} {w w' : World} {e : Ending} (hp : ShPost T xs bud w e w') : ShAny T (shL xs bud) (shK xs bud) (shL xs bud).length w e w' := by
  obtain ⟨v, rfl, ho, hb⟩ := hp
  obtain ⟨A, c, rfl, h1, h2, -⟩ := own_shape ho
  exact ⟨A, c, rfl, ho, hb⟩

/-! ### STEP 1: THE WALK -/
set_option maxHeartbeats 4000000 in
set_option maxRecDepth 100000 in
theorem walk (A : Option Addr) (n c : Nat) (xs : List Dm) (z : Int) (w : World) (hws : Dms w w.heap.size A n xs) (hnc : n ≤ c) (hcm : c ≤ maxLen) (hz : (Lit.int .i64 z).wf = true) :
    Calls Try.prog 12 #[.slice A n c, .int .i64 z] w fun e w' => e = .returned (.bool true) ∧ Below w.heap.size w w' := by
  by_cases hbig : 1048576 < n
  · go_enter Try.func12, Try.ntmps12
    go_wp2_with fail
    refine (szD_no A n c _ hbig (by omega)).mono ?_
    rintro e w0 ⟨rfl, rfl⟩
    go_wp2
    go_ret
    exact ⟨rfl, Below.refl _ _⟩
  have hn20 : n ≤ 1048576 := by omega
  have hn40 : n ≤ 1099511627776 := by omega
  have HL := Lib.hid hws.len
  have HW := Lib.hid hws
  have hia := fun A' (w' : World) (h : Dms w' w'.heap.size A' n xs) => (ishares_any A' n n xs z w' h hn40).mono fun _ _ hp => ShPost.any hp
  have hsa := fun A' (w' : World) (h : Dms w' w'.heap.size A' n xs) => (sshares_any A' n n xs z w' h hn40).mono fun _ _ hp => ShPost.any hp
  have hN7 := shL_le xs z
  obtain ⟨L, hL⟩ : ∃ L, shL xs z = L := ⟨_, rfl⟩
  obtain ⟨ok, hok⟩ : ∃ ok, shK xs z = ok := ⟨_, rfl⟩
  rw [hL] at hN7
  rw [hL, hok] at hia hsa
  obtain ⟨N, hN⟩ : ∃ N, L.length = N := ⟨_, rfl⟩
  rw [hN] at hia hsa hN7
  have HIA := Lib.hid hia
  have HSA := Lib.hid hsa
  have q0 : (ok != ok) = false := by simp
  have hnB : (0 : Int) ≤ 1 + (n : Int) * 4 := by omega
  have qm : decide (1 + (n : Int) * 4 < 0) = false := by simp; omega
  have qi : decide (1 + (N : Int) < 0) = false := by simp; omega
  have qe : (1 + (N : Int) != 1 + (N : Int)) = false := by simp
  clear hia hsa hL hok hN hbig hnc hcm hws
  have e1 : decide ((1048576 : Int) - n < 0) = false := by simp; omega
  go_enter Try.func12, Try.ntmps12
  go_wp2_with fail
  refine (szD_ok A n c _ hn20).mono ?_
  rintro e w0 ⟨rfl, rfl⟩
  -- the reference
  go_wp2_with fail
  refine (toDemandS_any A n c xs _ HW.out (by omega)).mono ?_
  rintro e w1 ⟨g1, rfl, hg1, hrow1, hb1⟩
  have hD1 : Dms w1 w1.heap.size (some ⟨g1, 0, none⟩) n xs := seq_rowD hrow1 HL.out
  clear hrow1
  go_wp2_with fail
  refine (HSA.out _ w1 hD1).mono ?_
  rintro e w2 ⟨A2, c2, rfl, ho2, hb2⟩
  have HO2 := Lib.hid ho2
  have hO2lt : ∀ k, Value.ownBlock (.slice A2 N c2) = some k → w1.heap.size ≤ k ∧ k < w2.heap.size := ho2.lt
  have hB2 : Below w.heap.size w w2 := hb1.trans (hb2.mono hb1.size)
  have hs12 := hb2.size
  have hs01 := hb1.size
  clear hD1 hb2 ho2
  -- the program
  go_wp2_with fail
  refine (toDemandS_any A n c xs _ ((HW.out.below hB2).more hB2.size) (by omega)).mono ?_
  rintro e w3 ⟨g3, rfl, hg3, hrow3, hb3⟩
  have hD3 : Dms w3 w3.heap.size (some ⟨g3, 0, none⟩) n xs := seq_rowD hrow3 HL.out
  have HR3 := Lib.hid hrow3
  have hB3 : Below w.heap.size w w3 := hB2.trans (hb3.mono hB2.size)
  have HO3 := Lib.hid (own_below HO2.out hb3)
  have hg3l := hrow3.lt
  have hs23 := hb3.size
  clear hrow3 hb3
  go_wp2_with fail
  refine (HIA.out _ w3 hD3).mono ?_
  rintro e w4 ⟨A4, c4, rfl, ho4, hb4⟩
  have HG4 := Lib.hid ho4
  have HO4 := Lib.hid (own_below HO3.out hb4)
  have HR4 := Lib.hid (HR3.out.below hb4 hg3l)
  have hB4 : Below w.heap.size w w4 := hB3.trans (hb4.mono hB3.size)
  have HD4 := Lib.hid (show Dms w4 w4.heap.size (some ⟨g3, 0, none⟩) n xs from (hD3.below hb4).more hb4.size)
  have hs34 := hb4.size
  clear hD3 hb4 ho4 HO3 HR3 HO2
  go_wp2_with fail
  refine (eqIntS_same A4 A2 N c4 c2 _ L _ (show Ints w4 w4.heap.size A4 N L from Sl.of_own HG4.out) (show Ints w4 w4.heap.size A2 N L from Sl.of_own HO4.out) (by omega)).mono ?_
  rintro e w5 ⟨rfl, hb⟩
  have HG5 := Lib.hid (own_below HG4.out hb)
  have HO5 := Lib.hid (own_below HO4.out hb)
  have HR5 := Lib.hid (HR4.out.below hb HR4.out.lt)
  have HD5 := Lib.hid (show Dms w5 w5.heap.size (some ⟨g3, 0, none⟩) n xs from (HD4.out.below hb).more hb.size)
  have hB5 : Below w.heap.size w w5 := hB4.trans (hb.mono hB4.size)
  clear hb
  go_wp2_with fail
  refine (toDemandS_any A n c xs _ ((HW.out.below hB5).more hB5.size) (by omega)).mono ?_
  rintro e w6 ⟨g6, rfl, hg6, hrow6, hb⟩
  have HG6 := Lib.hid (own_below HG5.out hb)
  have HO6 := Lib.hid (own_below HO5.out hb)
  have HR6 := Lib.hid (HR5.out.below hb HR5.out.lt)
  have HD6 := Lib.hid (show Dms w6 w6.heap.size (some ⟨g3, 0, none⟩) n xs from (HD5.out.below hb).more hb.size)
  have hB6 : Below w.heap.size w w6 := hB5.trans (hb.mono hB5.size)
  have hD6 : Dms w6 w6.heap.size (some ⟨g6, 0, none⟩) n xs := seq_rowD hrow6 HL.out
  clear hrow6 hb
  go_wp2_with fail
  refine (eqDemandS_same (some ⟨g3, 0, none⟩) (some ⟨g6, 0, none⟩) n n n _ xs _ HD6.out hD6 (Nat.le_refl _) (by omega)).mono ?_
  rintro e w7 ⟨rfl, hb⟩
  have HG7 := Lib.hid (own_below HG6.out hb)
  have HO7 := Lib.hid (own_below HO6.out hb)
  have HR7 := Lib.hid (HR6.out.below hb HR6.out.lt)
  have HD7 := Lib.hid (show Dms w7 w7.heap.size (some ⟨g3, 0, none⟩) n xs from (HD6.out.below hb).more hb.size)
  have hB7 : Below w.heap.size w w7 := hB6.trans (hb.mono hB6.size)
  clear hb hD6
  go_wp2_with fail
  refine (markDemandS_any (some ⟨g3, 0, none⟩) g3 n n (xs.flatMap Dm.c) 1 _ (fun _ => ⟨rfl, HR7.out, by rw [flat_lenD, HL.out]; exact Nat.le_refl _⟩) (by omega) (by omega) (by omega)).mono ?_
  rintro e w8 ⟨rfl, -, hbt⟩
  have HG8 := Lib.hid (own_but HG7.out hbt (fun k hk h => by have := HG7.out.lt k hk; have := h.1; omega))
  have HO8 := Lib.hid (own_but HO7.out hbt (fun k hk h => by have := hO2lt k hk; have := h.1; omega))
  have hB8 : Below w.heap.size w w8 := hB7.trans (hbt.below (fun k hk => by have := hk.1; omega) hB7.size)
  clear hbt
  go_wp2_with fail
  refine (eqIntS_same A4 A2 N c4 c2 _ L _ (show Ints w8 w8.heap.size A4 N L from Sl.of_own HG8.out) (show Ints w8 w8.heap.size A2 N L from Sl.of_own HO8.out) (by omega)).mono ?_
  rintro e w9 ⟨rfl, hb⟩
  have HG9 := Lib.hid (own_below HG8.out hb)
  have HO9 := Lib.hid (own_below HO8.out hb)
  have hB9 : Below w.heap.size w w9 := hB8.trans (hb.mono hB8.size)
  clear hb
  go_wp2_with fail
  refine (markI_any w3.heap.size N c4 A4 L 1 _ HG9.out (by omega) (by omega) (by omega)).mono ?_
  rintro e w10 ⟨rfl, hgm, hbt⟩
  have HG10 := Lib.hid hgm
  have HO10 := Lib.hid (own_but HO9.out hbt (fun k hk h => by have := hO2lt k hk; have := HG9.out.lt k h; omega))
  have hB10 : Below w.heap.size w w10 := hB9.trans (hbt.below (fun k hk => by have := HG9.out.lt k hk; omega) hB9.size)
  clear hbt hgm
  go_wp2_with fail
  refine (heldI_any N c4 _ A4 1 _ (show Ints w10 w10.heap.size A4 N (mkI 1 N) from Sl.of_own HG10.out) (by omega) (by omega) (by omega)).mono ?_
  rintro e w11 ⟨rfl, hb⟩
  have HG11 := Lib.hid (own_below HG10.out hb)
  have HO11 := Lib.hid (own_below HO10.out hb)
  have hB11 : Below w.heap.size w w11 := hB10.trans (hb.mono hB10.size)
  clear hb
  go_wp2_with fail
  refine (toDemandS_any A n c xs _ ((HW.out.below hB11).more hB11.size) (by omega)).mono ?_
  rintro e w12 ⟨g7, rfl, hg7, hrow7, hb⟩
  have HG12 := Lib.hid (own_below HG11.out hb)
  have HO12 := Lib.hid (own_below HO11.out hb)
  have hB12 : Below w.heap.size w w12 := hB11.trans (hb.mono hB11.size)
  have hD7 : Dms w12 w12.heap.size (some ⟨g7, 0, none⟩) n xs := seq_rowD hrow7 HL.out
  clear hrow7 hb
  go_wp2_with fail
  refine (HIA.out _ w12 hD7).mono ?_
  rintro e w13 ⟨A8, c8, rfl, ho8, hb⟩
  have HG13 := Lib.hid (own_below HG12.out hb)
  have HO13 := Lib.hid (own_below HO12.out hb)
  have hB13 : Below w.heap.size w w13 := hB12.trans (hb.mono hB12.size)
  have HH13 := Lib.hid ho8
  clear ho8 hD7 hb
  go_wp2_with fail
  refine (eqIntS_same A8 A2 N c8 c2 _ L _ (show Ints w13 w13.heap.size A8 N L from Sl.of_own HH13.out) (show Ints w13 w13.heap.size A2 N L from Sl.of_own HO13.out) (by omega)).mono ?_
  rintro e w14 ⟨rfl, hb⟩
  have HG14 := Lib.hid (own_below HG13.out hb)
  have HO14 := Lib.hid (own_below HO13.out hb)
  have hB14 : Below w.heap.size w w14 := hB13.trans (hb.mono hB13.size)
  clear hb
  go_wp2_with fail
  refine (heldI_any N c4 _ A4 1 _ (show Ints w14 w14.heap.size A4 N (mkI 1 N) from Sl.of_own HG14.out) (by omega) (by omega) (by omega)).mono ?_
  rintro e w15 ⟨rfl, hb⟩
  have HG15 := Lib.hid (own_below HG14.out hb)
  have HO15 := Lib.hid (own_below HO14.out hb)
  have hB15 : Below w.heap.size w w15 := hB14.trans (hb.mono hB14.size)
  clear hb
  go_wp2
  go_ret
  exact ⟨rfl, hB15⟩

set_option maxRecDepth 100000 in
theorem lifted (os : Os) (started : os.Started) (H : Type) (enc : TypeId × Value → H) :
    ReturnsInHanded {} Try.checked os 12 .any (Rows.fnExactSharesOfSpec.pre6 enc Try.prog Try.f12 Rows.fnExactSharesOfRow.domain false) (Rows.fnExactSharesOfSpec.post enc Try.prog Try.f12 false true false false) := by
  refine returnsInHanded_of_change (C := Try.checked) own started (by kernel_rfl) Try.func12
    (ChangeSpec.witness6 (enc := enc) (C := Try.checked) false ⟨#[], #[.slice none 0 0, .int .i64 0], []⟩ 8 (by kernel_rfl) (by kernel_rfl) (by kernel_rfl) (by kernel_rfl)) ?_
  intro W base args ds gs before hval0 hW hcnd _
  have hval : ∀ (j : Nat) t v, Try.f12.params[j]? = some t → args[j]? = some v → Value.okWide Try.prog W .any base t v := hval0
  have hW' := hW
  obtain ⟨p, q, hA0, hV, rfl, hfz, hnd⟩ := hW
  have hA : DataW.TrodAll enc Try.prog W 0 (fun _ => true) true Try.f12.params.toList args.toList ds p := hA0
  rw [Try.params12] at hA hval
  obtain ⟨v0, vs0, d0, ds0, p0, q0, hargs, rfl, rfl, h0, r0⟩ := trodAll_cons hA
  obtain ⟨v1, vs1, d1, ds1, p1, q1, rfl, rfl, rfl, h1, r1⟩ := trodAll_cons r0
  obtain ⟨rfl, rfl, rfl⟩ := trodAll_nil r1
  obtain rfl : args = #[v0, v1] := by cases args; simp_all
  obtain ⟨rfl, rfl⟩ := trodVars_none hV
  obtain ⟨A, n, c, xs, rfl, hnc, hcm, hws⟩ := open_dms (hval 0 22 v0 rfl rfl) h0
  obtain ⟨z, rfl, hz⟩ := open_intD (hval 1 3 v1 rfl rfl) h1
  have lt0 : ∀ x ∈ p0, x.block < W.heap.size := by obtain ⟨m, hm⟩ := h0; exact DataW.trod_lt m _ _ _ hm
  have lt1 : ∀ x ∈ p1, x.block < W.heap.size := by obtain ⟨m, hm⟩ := h1; exact DataW.trod_lt m _ _ _ hm
  clear hA0 hval0
  refine (walk A n c xs z W hws hnc hcm hz).mono fun e W' ⟨he, bel⟩ => ?_
  subst he
  exact ⟨_, rfl, _, _, _, [], _, [], hW', trodAll_mk1 (shut_bool Try.underlying4 _), (trodAll_cons_mk (Below.trod laidOut (by kernel_rfl) (of_decide_eq_true (by kernel_rfl)) h0 bel lt0) (trodAll_cons_mk (Below.trod laidOut (by kernel_rfl) (of_decide_eq_true (by kernel_rfl)) h1 bel lt1) trodAll_mk0)), rfl, bel.frame _, fun h => by cases h⟩

theorem over : Rows.fnExactSharesOfRow.holds Try.pinned (OpenSpec.ofChange Rows.fnExactSharesOfSpec) :=
  OpenClaim.holds_of_wide 12 Try.f12 rfl rfl rfl rfl rfl rfl rfl ⟨rfl, rfl, rfl, rfl, rfl⟩ rfl rfl rfl rfl rfl (by kernel_rfl) Try.func12 (by kernel_rfl)
    (of_decide_eq_true (by kernel_rfl)) (by unfold Func.isWrapper; first | (rw [if_pos (by decide +kernel)]; kernel_rfl) | (rw [if_neg (by decide +kernel)]; exact ⟨rfl, rfl⟩))
    (fun os started H enc _ => lifted os started H enc)

/-- THE STATEMENT -/
theorem proved : Rows.FnExactSharesOfSaid := over
#print axioms proved
end Go.Proofs.Ythkoafcbcnobhaa.fnExactSharesOf
