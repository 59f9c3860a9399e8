/-
  The statement FnExactHeadersFrom: the law returns true for every input, and what was there before the call has not turned.
  No condition beyond the given statement.
-/
import Derived.Test.YtjpglpglgkopiaaDoorRows
import Derived.Test.YtjpglpglgkopiaaDoorTie
import Derived.Test.YtjpglpglgkopiaaDoorCards
import Derived.WalkKit
import Derived.ProofKit
import Derived.OpenShut
import Derived.ShutString
import Derived.ChangeOld
import Derived.Below
import Derived.Test.YtjpglpglgkopiaaDoorHdZ
import Derived.Test.YtjpglpglgkopiaaDoorHdJ
import Derived.Test.YtjpglpglgkopiaaDoorHdY
import Derived.LaidMore
import Derived.Stop.Joined
import Derived.SevenTiedAt
import Derived.Test.YtjpglpglgkopiaaDoorErA
import Derived.Test.YtjpglpglgkopiaaDoorOpI
namespace Go.Proofs.YtjpglpglgkopiaaDoor.fnExactHeadersFrom
open Go.ChangeShapes Go.WideShapes Go.ChangeAt Go.RowKit
set_option linter.unusedVariables false
set_option linter.unusedSimpArgs false

theorem own : ownKnob Tryd.prog.godebug = none := by kernel_rfl
theorem laidOut : laidOutB Tryd.prog = true := by kernel_rfl

/-- A row of packets, its block known. -/
structure PRow (B : Nat) (w : World) (A : Option Addr) (n : Nat) (ps : List Pk) : Prop where
  pks : Pks w w.heap.size A n ps
  blk : ∃ g cs, 0 < n → A = some ⟨g, 0, none⟩ ∧ B ≤ g ∧ g < w.heap.size ∧ Bk w g 24 (cs : List Value).toArray ∧ n * 6 ≤ cs.length
theorem PRow.of {B : Nat} {w : World} {A : Option Addr} {n c : Nat} {ps : List Pk} (h : w.ownsRow B 24 6 (.slice A n c) n (ps.flatMap Pk.c)) : PRow B w A n ps := by
  refine ⟨pks_own h, ?_⟩
  rcases h.2 with ⟨h1, h2⟩ | ⟨g, cap, cur, hv, hb, hg, hnc, hcm, hs, ht⟩
  · exact ⟨0, [], fun h0 => absurd h0 (by omega)⟩
  · injection hv with hv _ hcap
    subst hv hcap
    refine ⟨g, cur.toList, fun _ => ⟨rfl, hb, (Array.getElem?_eq_some_iff.1 hg).1, by rw [Array.toArray_toList]; exact hg, ?_⟩⟩
    rw [Array.length_toList, hs]
    exact Nat.mul_le_mul_right 6 hnc
theorem hx_two (near : Int) (zs : List Int) : ∃ (ps : List Pk) (ok : Bool), ps.length ≤ 20 ∧ ∀ w e w', HxRet near zs w e w' → ∃ A c, e = .returned (.tuple #[.slice A ps.length c, .bool ok]) ∧ PRow w.heap.size w' A ps.length ps ∧ Below w.heap.size w w' := by
  cases hq : hsR near zs with
  | none =>
    refine ⟨[], false, by simp, fun w e w' h => ?_⟩
    obtain ⟨⟨A, c, he⟩, hb⟩ := h.2 hq
    exact ⟨A, c, he, ⟨Pks.none_, 0, [], fun h0 => absurd h0 (by simp)⟩, hb⟩
  | some ps =>
    refine ⟨ps, true, (hsR_some hq).2.2.1, fun w e w' h => ?_⟩
    obtain ⟨⟨A, c, he, ho⟩, hb⟩ := h.1 ps hq
    exact ⟨A, c, he, PRow.of ho, hb⟩
theorem But.belowB {X : Nat → Prop} {B : Nat} {a b : World} (h : But X a b) (hX : ∀ k, X k → B ≤ k) (hs : B ≤ a.heap.size) : Below B a b := h.below hX hs

/-! ### STEP 1: THE WALK -/
set_option maxHeartbeats 4000000 in
set_option maxRecDepth 100000 in
theorem walk (z : Int) (A : Option Addr) (n c : Nat) (zs : List Int) (w : World) (hz : (Lit.int .i64 z).wf = true) (his : Ints w w.heap.size A n zs) (hnc : n ≤ c) (hcm : c ≤ maxLen) (hg : HgOk w) :
    Calls Tryd.prog 10 #[.int .i64 z, .slice A n c] w fun e w' => e = .returned (.bool true) ∧ Below w.heap.size w w' := by
  have hcm' := hcm
  unfold maxLen at hcm'
  by_cases hbig : 1048576 < n
  · have e1 : decide (1048576 < n) = true := by simpa using hbig
    go_enter Tryd.func10, Tryd.ntmps10
    go_wp2
    go_ret
    exact ⟨rfl, Below.refl _ _⟩
  have e1 : decide (1048576 < n) = false := by simpa using hbig
  obtain ⟨ps, ok, hp20, hx⟩ := hx_two z zs
  obtain ⟨m, hm⟩ : ∃ m, ps.length = m := ⟨_, rfl⟩
  rw [hm] at hp20 hx
  have HX := Lib.hid hx
  have HI := Lib.hid his
  have HG := Lib.hid hg
  have hg0 := hg.lt
  have hn48 : n ≤ maxLen := by unfold maxLen; omega
  clear hx his hg hm
  go_enter Tryd.func10, Tryd.ntmps10
  go_wp2_with fail
  refine (toIntS_any A n c zs w HI.out hnc (by omega)).mono ?_
  rintro e w1 ⟨A1, rfl, hown1, hB1⟩
  have HZ1 := Lib.hid (ints_own hown1)
  clear hown1
  go_wp2_with fail
  refine (shx_any z n n A1 zs w1 HZ1.out (by omega) (Nat.le_refl _) hn48).mono ?_
  rintro e w2 hr
  obtain ⟨A2, c2, rfl, hrow2, hb2⟩ := HX.out _ _ _ hr
  have hB2 := hB1.trans (hb2.mono hB1.size)
  have HS2 := Lib.hid hrow2.pks
  have HI2 := Lib.hid ((HI.out.below hB2).more hB2.size)
  clear hr hb2 hrow2 hB1
  go_wp2_with fail
  refine (toIntS_any A n c zs w2 HI2.out hnc (by omega)).mono ?_
  rintro e w3 ⟨A3, rfl, hown3, hC3⟩
  have hB3 := hB2.trans (hC3.mono hB2.size)
  have HO3 := Lib.hid hown3
  have HZ3 := Lib.hid (ints_own hown3)
  have HG3 := Lib.hid (HG.out.below hB3 hg0)
  clear hown3
  go_wp2_with fail
  refine (ihx_any z n n A3 zs w3 HZ3.out (by omega) HG3.out).mono ?_
  rintro e w4 hr
  obtain ⟨A4, c4, rfl, ⟨hpk4, g, cs, hblk4⟩, hD4⟩ := HX.out _ _ _ hr
  have hC4 := hC3.trans (hD4.mono hC3.size)
  have HP4 := Lib.hid hpk4
  have HB4 := Lib.hid hblk4
  have HZ4 := Lib.hid (HZ3.out.step hD4)
  have HS4 := Lib.hid ((HS2.out.below hC4).more hC4.size)
  have HO4 := Lib.hid (own_below HO3.out hD4)
  clear hr hpk4 hblk4
  have HC4 := Lib.hid hC4
  have HC3 := Lib.hid hC3
  have HD4 := Lib.hid hD4
  have HB2 := Lib.hid hB2
  have hs23 := hC3.size
  have hs34 := hD4.size
  have hsw2 := hB2.size
  clear hC4 hC3 hD4 hB3 hB2
  go_wp2_with fail
  refine (eqPacketS_same A4 A2 m c4 c2 w4.heap.size ps w4 HP4.out HS4.out (Nat.le_refl _) (by omega)).mono ?_
  rintro e w5 ⟨rfl, hb5⟩
  have HC5 := Lib.hid (HC4.out.trans (hb5.mono (by omega)))
  have HP5 := Lib.hid ((HP4.out.below hb5).more hb5.size)
  have HB5 := Lib.hid (fun h0 => by obtain ⟨h1, h2, h3, h4, h5⟩ := HB4.out h0; exact And.intro h1 (And.intro h2 (And.intro (Nat.lt_of_lt_of_le h3 hb5.size) (And.intro (h4.below hb5 h3) h5))))
  have HZ5 := Lib.hid (HZ4.out.step hb5)
  have HO5 := Lib.hid (own_below HO4.out hb5)
  have HI5 := Lib.hid ((HI.out.below (HB2.out.trans (HC5.out.mono hsw2))).more (HB2.out.trans (HC5.out.mono hsw2)).size)
  have hs45 := hb5.size
  clear hb5
  cases ok
  all_goals
    go_wp2_with fail
    refine (toIntS_any A n c zs w5 HI5.out hnc (by omega)).mono ?_
    rintro e w6 ⟨A6, rfl, hown6, hb6⟩
    have HC6 := Lib.hid (HC5.out.trans (hb6.mono (by omega)))
    have HP6 := Lib.hid ((HP5.out.below hb6).more hb6.size)
    have HB6 := Lib.hid (fun h0 => by obtain ⟨h1, h2, h3, h4, h5⟩ := HB5.out h0; exact And.intro h1 (And.intro h2 (And.intro (Nat.lt_of_lt_of_le h3 hb6.size) (And.intro (h4.below hb6 h3) h5))))
    have HZ6 := Lib.hid (HZ5.out.step hb6)
    have HO6 := Lib.hid (own_below HO5.out hb6)
    have HY6 := Lib.hid (ints_own hown6)
    have hs56 := hb6.size
    clear hb6 hown6
    go_wp2_with fail
    refine (eqIntS_same _ _ n _ _ w6.heap.size zs w6 HZ6.out HY6.out (by omega)).mono ?_
    rintro e w7 ⟨rfl, hb7⟩
    have HC7 := Lib.hid (HC6.out.trans (hb7.mono (by omega)))
    have HP7 := Lib.hid ((HP6.out.below hb7).more hb7.size)
    have HB7 := Lib.hid (fun h0 => by obtain ⟨h1, h2, h3, h4, h5⟩ := HB6.out h0; exact And.intro h1 (And.intro h2 (And.intro (Nat.lt_of_lt_of_le h3 hb7.size) (And.intro (h4.below hb7 h3) h5))))
    have HO7 := Lib.hid (own_below HO6.out hb7)
    have hs67 := hb7.size
    clear hb7
    go_wp2_with fail
    refine (markI_any w2.heap.size n n A3 zs 1 w7 HO7.out (by omega) (by omega) (by omega)).mono ?_
    rintro e w8 ⟨rfl, -, hb8⟩
    have hxb : ∀ k, Value.ownBlock (.slice A3 n n) = some k → w2.heap.size ≤ k ∧ k < w3.heap.size := fun k hk => HO3.out.lt k hk
    have HC8 := Lib.hid (HC7.out.trans (hb8.below (fun k hk => (hxb k hk).1) (by omega)))
    have HB8 := Lib.hid (fun h0 => by obtain ⟨h1, h2, h3, h4, h5⟩ := HB7.out h0; exact And.intro h1 (And.intro h2 (And.intro (Nat.lt_of_lt_of_le h3 hb8.size) (And.intro (h4.but hb8 (fun hk => by have := (hxb g hk).2; omega)) h5))))
    have HP8 := Lib.hid (show Pks w8 w8.heap.size A4 m ps from by
      rcases Nat.eq_zero_or_pos m with h0 | h0
      · have : ps = [] := List.eq_nil_of_length_eq_zero (by have := HP7.out.len; omega)
        subst h0 this
        exact Pks.none_
      · refine (Sl.but HP7.out hb8 fun k o hA hk => ?_).more hb8.size
        obtain ⟨h1, h2, _⟩ := HB7.out h0
        rw [h1] at hA
        injection hA with hA
        injection hA with hA _
        subst hA
        have := (hxb _ hk).2
        omega)
    have HS8 := Lib.hid ((HS2.out.below HC8.out).more HC8.out.size)
    have hs78 := hb8.size
    clear hb8 hxb
    have d0 : decide ((1 : Int) + (n : Int) < 0) = false := by simp; omega
    go_wp2_with fail
    refine (eqPacketS_same A4 A2 m c4 c2 w8.heap.size ps w8 HP8.out HS8.out (Nat.le_refl _) (by omega)).mono ?_
    rintro e w9 ⟨rfl, hb9⟩
    clear d0
    have HC9 := Lib.hid (HC8.out.trans (hb9.mono (by omega)))
    have HB9 := Lib.hid (fun h0 => by obtain ⟨h1, h2, h3, h4, h5⟩ := HB8.out h0; exact And.intro h1 (And.intro h2 (And.intro (Nat.lt_of_lt_of_le h3 hb9.size) (And.intro (h4.below hb9 h3) h5))))
    have hs89 := hb9.size
    clear hb9
    go_wp2_with fail
    refine (markPacketS_any A4 g m c4 cs 1 w9 (fun h0 => by obtain ⟨h1, _, _, h4, h5⟩ := HB9.out h0; exact ⟨h1, h4, h5⟩) (by omega) (by omega) (by omega)).mono ?_
    rintro e w10 ⟨rfl, hr10, hb10⟩
    obtain ⟨r, hr⟩ : ∃ r, 0 < m → Bk w10 g 24 (mksP 1 m ++ r).toArray := by
      rcases Nat.eq_zero_or_pos m with h0 | h0
      · exact ⟨[], fun h => absurd h (by omega)⟩
      · obtain ⟨r, hr⟩ := hr10 h0
        exact ⟨r, fun _ => hr⟩
    have HR10 := Lib.hid (show 0 < m → A4 = some ⟨g, 0, none⟩ ∧ Bk w10 g 24 (mksP 1 m ++ r).toArray from fun h0 => ⟨(HB9.out h0).1, hr h0⟩)
    have HC10 := Lib.hid (HC9.out.trans (hb10.below (fun k hk => by obtain ⟨rfl, h0⟩ := hk; have := (HB9.out h0).2.1; omega) (by omega)))
    have HI10 := Lib.hid ((HI.out.below (HB2.out.trans (HC10.out.mono hsw2))).more (HB2.out.trans (HC10.out.mono hsw2)).size)
    have hs910 := hb10.size
    clear hr hr10 hb10
    go_wp2_with fail
    refine (heldPacketS_any A4 g m c4 r 1 w10 HR10.out (by omega) (by omega) (by omega)).mono ?_
    rintro e w10' ⟨rfl, rfl⟩
    have d1 : decide ((1 : Int) + (m : Int) * 6 < 0) = false := by simp; omega
    go_wp2_with fail
    refine (toIntS_any A n c zs w10 HI10.out hnc (by omega)).mono ?_
    rintro e w11 ⟨A11, rfl, hown11, hb11⟩
    have HC11 := Lib.hid (HC10.out.trans (hb11.mono (by omega)))
    have HR11 := Lib.hid (show 0 < m → A4 = some ⟨g, 0, none⟩ ∧ Bk w11 g 24 (mksP 1 m ++ r).toArray from fun h0 => ⟨(HR10.out h0).1, (HR10.out h0).2.below hb11 (HR10.out h0).2.lt⟩)
    have HZ11 := Lib.hid (ints_own hown11)
    have HG11 := Lib.hid (HG.out.below (HB2.out.trans (HC11.out.mono hsw2)) hg0)
    have hs1011 := hb11.size
    clear hown11 hb11
    go_wp2_with fail
    refine (ihx_any z n n A11 zs w11 HZ11.out (by omega) HG11.out).mono ?_
    rintro e w12 hr
    obtain ⟨A12, c12, rfl, ⟨hpk12, -⟩, hb12⟩ := HX.out _ _ _ hr
    have HC12 := Lib.hid (HC11.out.trans (hb12.mono (by omega)))
    have HR12 := Lib.hid (show 0 < m → A4 = some ⟨g, 0, none⟩ ∧ Bk w12 g 24 (mksP 1 m ++ r).toArray from fun h0 => ⟨(HR11.out h0).1, (HR11.out h0).2.below hb12 (HR11.out h0).2.lt⟩)
    have HP12 := Lib.hid hpk12
    have HS12 := Lib.hid ((HS2.out.below HC12.out).more HC12.out.size)
    have hs1112 := hb12.size
    clear hr hb12 hpk12
    go_wp2_with fail
    refine (eqPacketS_same A12 A2 m c12 c2 w12.heap.size ps w12 HP12.out HS12.out (Nat.le_refl _) (by omega)).mono ?_
    rintro e w13 ⟨rfl, hb13⟩
    have HC13 := Lib.hid (HC12.out.trans (hb13.mono (by omega)))
    have HR13 := Lib.hid (show 0 < m → A4 = some ⟨g, 0, none⟩ ∧ Bk w13 g 24 (mksP 1 m ++ r).toArray from fun h0 => ⟨(HR12.out h0).1, (HR12.out h0).2.below hb13 (HR12.out h0).2.lt⟩)
    clear hb13
    go_wp2_with fail
    refine (heldPacketS_any A4 g m c4 r 1 w13 HR13.out (by omega) (by omega) (by omega)).mono ?_
    rintro e w14 ⟨rfl, rfl⟩
    go_wp2
    go_ret
    exact ⟨rfl, HB2.out.trans (HC13.out.mono hsw2)⟩

set_option maxRecDepth 100000 in
theorem lifted (os : Os) (started : os.Started) (H : Type) (enc : TypeId × Value → H) :
    ReturnsInHanded {} Tryd.checked os 10 .any (fun w args => (Rows.fnExactHeadersFromSpec.pre enc Tryd.prog Tryd.f10 [] false w args ∧ laidMetH Tryd.prog Rows.fnExactHeadersFromRow.laid w) ∧ sizedMet enc Tryd.prog Tryd.f10 (OpenSpec.ofChange Rows.fnExactHeadersFromSpec) false w args)
      (Rows.fnExactHeadersFromSpec.post enc Tryd.prog Tryd.f10 false true false false) := by
  refine returnsInHanded_of_change_and (C := Tryd.checked) (X := fun w _ => laidMetH Tryd.prog Rows.fnExactHeadersFromRow.laid w) (fun _ _ _ hh h => h.of_heap hh) own started (by kernel_rfl) Tryd.func10
    (ChangeSpec.witness_at (enc := enc) (C := Tryd.checked) (os := os) (X := fun w _ => laidMetH Tryd.prog Rows.fnExactHeadersFromRow.laid w) false (laidWorld os) #[.int .i64 0, .slice none 0 0] 8 rfl (by kernel_rfl) (by kernel_rfl) (by kernel_rfl) (by kernel_rfl) (by kernel_rfl) (laidWorld_met os _)) ?_
  intro W base args ds gs before hval0 hW _ _ hL _
  have hg : HgOk W := handle_of_laid hL
  have hval : ∀ (j : Nat) t v, Tryd.f10.params[j]? = some t → args[j]? = some v → Value.okWide Tryd.prog W .any base t v := hval0
  have hW' := hW
  obtain ⟨p, q, hA0, hV, rfl, hfz, hnd⟩ := hW
  have hA : DataW.TrodAll enc Tryd.prog W 0 (fun _ => true) true Tryd.f10.params.toList args.toList ds p := hA0
  rw [Tryd.params10] at hA hval
  obtain ⟨v0, vs0, d0, ds0, p0, q0, hargs, rfl, rfl, h0, r0⟩ := trodAll_cons hA
  obtain ⟨v1, vs1, d1, ds1, p1, q1, rfl, rfl, rfl, h1, r1⟩ := trodAll_cons r0
  obtain ⟨rfl, rfl, rfl⟩ := trodAll_nil r1
  obtain rfl : args = #[v0, v1] := by cases args; simp_all
  obtain ⟨rfl, rfl⟩ := trodVars_none hV
  obtain ⟨z, rfl, hz⟩ := open_intI (hval 0 3 v0 rfl rfl) h0
  obtain ⟨A, n, c, zs, rfl, hnc, hcm, his⟩ := open_intsI (hval 1 22 v1 rfl rfl) h1
  have lt0 : ∀ x ∈ p0, x.block < W.heap.size := by obtain ⟨m, hm⟩ := h0; exact DataW.trod_lt m _ _ _ hm
  have lt1 : ∀ x ∈ p1, x.block < W.heap.size := by obtain ⟨m, hm⟩ := h1; exact DataW.trod_lt m _ _ _ hm
  clear hA0 hval0
  refine (walk z A n c zs W hz his hnc hcm hg).mono fun e W' ⟨he, bel⟩ => ?_
  subst he
  exact ⟨_, rfl, _, _, _, [], _, [], hW', trodAll_mk1 (shut_bool Tryd.underlying4 _), (trodAll_cons_mk (Below.trod laidOut (by kernel_rfl) (of_decide_eq_true (by kernel_rfl)) h0 bel lt0) (trodAll_cons_mk (Below.trod laidOut (by kernel_rfl) (of_decide_eq_true (by kernel_rfl)) h1 bel lt1) trodAll_mk0)), rfl, bel.frame _, fun h => by cases h⟩

theorem over : Rows.FnExactHeadersFromSaid :=
  OpenClaim.holds_of_wide 10 Tryd.f10 rfl rfl rfl rfl rfl rfl rfl ⟨rfl, rfl, rfl, rfl, rfl⟩ rfl rfl rfl rfl rfl (by kernel_rfl) Tryd.func10 (by kernel_rfl)
    (of_decide_eq_true (by kernel_rfl)) (by unfold Func.isWrapper; first | (rw [if_pos (by decide +kernel)]; kernel_rfl) | (rw [if_neg (by decide +kernel)]; exact ⟨rfl, rfl⟩))
    (fun os started H enc _ => lifted os started H enc)

/-- THE STATEMENT -/
theorem proved : Rows.FnExactHeadersFromCardSaid :=
  Claim7.holds_tied_plain_at .later [] [.handle] true (true, "f2c3165d935d7055cbfed0928b62cc79c40ab9b59b194cd62da8f9fd35a1a633") true
    over (fun _ h => by cases h) (by kernel_rfl) (fun _ h => by cases h) fnExactHeadersFrom_row_tie rfl ⟨rfl, rfl⟩ (by kernel_rfl) rfl
    (fun f fn hf hfn => by
      obtain rfl : f = 10 := Option.some.inj ((show Tryd.prog.funcNamed "loop.example/mediarelay/laws.FnExactHeadersFrom" = some 10 by kernel_rfl).symm.trans hf) |>.symm
      obtain rfl : fn = Tryd.f10 := (Option.some.inj (Tryd.func10.symm.trans hfn)).symm
      exact ⟨by kernel_rfl, fun j t ht => by
        rw [Tryd.params10] at ht
        have hm : t ∈ [3, 22] := by simpa using Array.mem_of_getElem? ht
        have hall : ([3, 22].all fun u => !Tryd.prog.wantsStandIn u) = true := by kernel_rfl
        exact (show Tryd.prog.wantsStandIn t = false by simpa using List.all_eq_true.1 hall t hm)⟩)
    (by kernel_rfl)
#print axioms proved
end Go.Proofs.YtjpglpglgkopiaaDoor.fnExactHeadersFrom
