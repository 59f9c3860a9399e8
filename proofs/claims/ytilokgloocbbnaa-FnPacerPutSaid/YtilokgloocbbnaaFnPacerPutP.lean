/-
  The statement FnPacerPut: the law returns true for every input, and what was there before the call has not turned.
  No condition beyond the given statement.
-/
import Derived.Test.YtilokgloocbbnaaRows
import Derived.WalkKit
import Derived.ProofKit
import Derived.OpenShut
import Derived.ShutString
import Derived.ChangeOld
import Derived.Below
import Derived.Test.YtilokgloocbbnaaPac
import Derived.Test.YtilokgloocbbnaaPacB
import Derived.Test.YtilokgloocbbnaaPacD
import Derived.Test.YtilokgloocbbnaaPacE
import Derived.Test.YtilokgloocbbnaaPacF
import Derived.Test.YtilokgloocbbnaaPacG
import Derived.Test.YtilokgloocbbnaaPacH
import Derived.Test.YtilokgloocbbnaaPacM
import Derived.Test.YtilokgloocbbnaaPacN
import Derived.Test.YtilokgloocbbnaaPacO
import Derived.Test.YtilokgloocbbnaaPacQ
namespace Go.Proofs.Ytilokgloocbbnaa.fnPacerPut
open Go.ChangeShapes Go.WideShapes Go.ChangeAt Go.RowKit
open Go.ChangeMaps (open_string shut_string)
set_option linter.unusedVariables false

theorem own : ownKnob Try.prog.godebug = none := by kernel_rfl
theorem laidOut : laidOutB Try.prog = true := by kernel_rfl

/-- WHAT THE WALK IS TOLD OF A SLICE OF INTEGERS THAT CAME IN: it is nil; or it leads to a row of 'cap' cells, the numbers 'zs' (the first 'len' are its elements, the rest its spare room), each fitting its kind. -/
def IsRow (k : IntKind) (w : World) (a : Option Addr) (len cap : Nat) (zs : List Int) : Prop :=
  (a = none ∧ len = 0 ∧ cap = 0 ∧ zs = []) ∨
  ∃ x, a = some x ∧ len ≤ cap ∧ cap ≤ maxLen ∧ zs.length = cap ∧ (∀ i, i < zs.length → w.cell? (x.add i) = some (.int k (zs.getD i 0))) ∧ ∀ n ∈ zs, (Lit.int k n).wf = true

theorem Wts.none_ {w : World} {B : Nat} {A : Option Addr} : Wts w B A 0 [] := Sl.none_

/-! ### STEP 1: THE WALK: the Go text returns true, AND WRITES NOTHING THAT WAS THERE: 'Below w.heap.size w w'' (Derived/Below.lean: '.refl', '.alloc', '.drew', '.setCell' at a new block, '.trans'). Open each 'IsRow' by 'rcases' AHEAD of 'go_enter'; part every test ahead of the walk. -/
set_option maxHeartbeats 4000000 in
set_option maxRecDepth 100000 in
theorem walk (a0 : Option Addr) (len0 cap0 : Nat) (z0 : List Int) (w : World) (w0 : IsRow .u8 w a0 len0 cap0 z0) :
    Calls Try.prog 3 #[.slice a0 len0 cap0] w fun e w' => e = .returned (.bool true) ∧ Below w.heap.size w w' := by
  obtain ⟨hb, hnc, hc⟩ := bytes_of_row w0
  have hcm := hc
  unfold maxLen at hcm
  by_cases hbig : 1048576 < len0
  · have e1 : decide (1048576 < len0) = true := by simpa using hbig
    go_enter Try.func3, Try.ntmps3
    go_wp2
    go_ret
    exact ⟨rfl, Below.refl _ _⟩
  · have e1 : decide (1048576 < len0) = false := by simpa using hbig
    go_enter Try.func3, Try.ntmps3
    go_wp2_with fail
    refine (draw_pput a0 len0 cap0 _ hb hnc hc).mono ?_
    rintro x w1 ⟨a, b, u, y, rfl, hpf, hb1⟩
    obtain ⟨ea, cr, A, n, c, xs, rfl, rfl, rfl, hn12, hnc', hc', hX, hA⟩ := hpf.shape
    clear hpf hA
    obtain ⟨yid, ycl, ysz⟩ := y
    have hs1 := hb1.size
    have hn4 : n ≤ 1099511627776 := by omega
    have hbx : Below w1.heap.size w1 ((w1.alloc (.cells #[.int .i64 ea, .int .i64 cr, .slice A n c] 25)).alloc (.cells #[.int .i64 yid, .int .i64 ycl, .int .i64 ysz] 27)) := (by repeat (first | exact Below.refl _ _ | assumption | refine Below.setCell ?_ (by first | omega | (simp; done) | (simp; omega)) _ | refine Below.alloc ?_ (by first | omega | (simp; done) | (simp; omega)) _ | refine Below.drew ?_ | refine Below.drewN' ?_ _ | refine Below.trans ?_ (Below.mono (by assumption) (by first | omega | (simp; done) | (simp; omega)))))
    have hP := (Bk.new w1 25 #[.int .i64 ea, .int .i64 cr, .slice A n c]).alloc (.cells #[.int .i64 yid, .int .i64 ycl, .int .i64 ysz] 27)
    have hW := Bk.new (w1.alloc (.cells #[.int .i64 ea, .int .i64 cr, .slice A n c] 25)) 27 #[.int .i64 yid, .int .i64 ycl, .int .i64 ysz]
    simp only [World.size_alloc] at hW
    replace hX := hX.step hbx
    have hB1 := hb1.trans (hbx.mono hs1)
    clear hbx hb1
    by_cases hin : PutIn ea cr xs ⟨yid, ycl, ysz⟩
    · have HIN := Lib.hid hin
      clear hin
      go_wp2_with fail
      refine (iput_good ea cr A n c xs ⟨yid, ycl, ysz⟩ _ hX hn4 HIN.out).mono ?_
      rintro x w2 ⟨k2, hlead, v2, rfl, hown2, hb2⟩
      obtain ⟨A2, c2, rfl, h2a, h2b, hY⟩ := own_shape hown2
      have hlen := putAt_len (x := ⟨yid, ycl, ysz⟩) hlead.1
      rw [hX.len] at hlen
      rw [hlen] at hown2 hY h2a
      replace hX := hX.step hb2
      replace hP := hP.below hb2 (by first | omega | exact hP.lt | (simp; done) | (simp; omega))
      replace hW := hW.below hb2 (by first | omega | exact hW.lt | (simp; done) | (simp; omega))
      have hB2 := hB1.trans (hb2.mono hB1.size)
      have hs2 : w1.heap.size + 1 + 1 ≤ w2.heap.size := by have := hb2.size; simpa using this
      have HLD := Lib.hid hlead
      clear hown2 hb2
      have hbx : Below w2.heap.size w2 (w2.alloc (.cells #[.int .i64 ea, .int .i64 cr, .slice A2 (n + 1) c2] 25)) := (by repeat (first | exact Below.refl _ _ | assumption | refine Below.setCell ?_ (by first | omega | (simp; done) | (simp; omega)) _ | refine Below.alloc ?_ (by first | omega | (simp; done) | (simp; omega)) _ | refine Below.drew ?_ | refine Below.drewN' ?_ _ | refine Below.trans ?_ (Below.mono (by assumption) (by first | omega | (simp; done) | (simp; omega)))))
      have hO := Bk.new w2 25 #[.int .i64 ea, .int .i64 cr, .slice A2 (n + 1) c2]
      have hP2 := hP.below hbx hP.lt
      have hW2 := hW.below hbx hW.lt
      replace hX := hX.step hbx
      replace hY := Wts.step hY hbx
      have hB2' := hB2.trans (hbx.mono hB2.size)
      rw [hlen]
      (try clear hP_c0); (try clear hP_f0)
      (try clear hP_c1); (try clear hP_f1)
      (try clear hP_c2); (try clear hP_f2)
      (try clear hP_lt)
      have hP_lt := hP.lt; (try simp only [World.size_alloc] at hP_lt)
      have hP_c0 := hP.cell 0; have hP_f0 := hP.frozen 0
      have hP_c1 := hP.cell 1; have hP_f1 := hP.frozen 1
      have hP_c2 := hP.cell 2; have hP_f2 := hP.frozen 2
      simp only [List.getElem?_toArray, List.getElem?_cons_zero, List.getElem?_cons_succ] at hP_c0 hP_c1 hP_c2
      (try clear hW_c0); (try clear hW_f0)
      (try clear hW_c1); (try clear hW_f1)
      (try clear hW_c2); (try clear hW_f2)
      (try clear hW_lt)
      have hW_lt := hW.lt; (try simp only [World.size_alloc] at hW_lt)
      have hW_c0 := hW.cell 0; have hW_f0 := hW.frozen 0
      have hW_c1 := hW.cell 1; have hW_f1 := hW.frozen 1
      have hW_c2 := hW.cell 2; have hW_f2 := hW.frozen 2
      simp only [List.getElem?_toArray, List.getElem?_cons_zero, List.getElem?_cons_succ] at hW_c0 hW_c1 hW_c2
      clear hbx
      go_wp2_with fail
      refine (sput_good ea cr A n c xs ⟨yid, ycl, ysz⟩ _ hX hn4 hnc' hc' HIN.out).mono ?_
      rintro x w3 ⟨k3, hlead3, v3, rfl, hown3, hb3⟩
      have hk32 := Lead.uniq hlead3 HLD.out
      subst hk32
      obtain ⟨A3, c3, rfl, -, -, hY3⟩ := own_shape hown3
      rw [hlen] at hY3
      replace hX := hX.step hb3
      replace hY := hY.step hb3
      (try clear hP_c0); (try clear hP_f0)
      (try clear hP_c1); (try clear hP_f1)
      (try clear hP_c2); (try clear hP_f2)
      (try clear hP_lt)
      (try clear hW_c0); (try clear hW_f0)
      (try clear hW_c1); (try clear hW_f1)
      (try clear hW_c2); (try clear hW_f2)
      (try clear hW_lt)
      clear hP hW
      replace hP2 := hP2.below hb3 (by first | omega | exact hP2.lt | (simp; done) | (simp; omega))
      replace hW2 := hW2.below hb3 (by first | omega | exact hW2.lt | (simp; done) | (simp; omega))
      replace hO := hO.below hb3 (by first | omega | exact hO.lt | (simp; done) | (simp; omega))
      have hB3 := hB2'.trans (hb3.mono hB2'.size)
      have hs3 : w2.heap.size + 1 ≤ w3.heap.size := by have := hb3.size; simpa using this
      clear hown3 hb3 hlead3 hB2'
      rw [hlen]
      have hbx : Below w3.heap.size w3 (w3.alloc (.cells #[.int .i64 ea, .int .i64 cr, .slice A3 (n + 1) c3] 25)) := (by repeat (first | exact Below.refl _ _ | assumption | refine Below.setCell ?_ (by first | omega | (simp; done) | (simp; omega)) _ | refine Below.alloc ?_ (by first | omega | (simp; done) | (simp; omega)) _ | refine Below.drew ?_ | refine Below.drewN' ?_ _ | refine Below.trans ?_ (Below.mono (by assumption) (by first | omega | (simp; done) | (simp; omega)))))
      have hQ := Bk.new w3 25 #[.int .i64 ea, .int .i64 cr, .slice A3 (n + 1) c3]
      replace hX := hX.step hbx
      replace hY := hY.step hbx
      replace hY3 := Wts.step hY3 hbx
      replace hP2 := hP2.below hbx hP2.lt
      replace hW2 := hW2.below hbx hW2.lt
      replace hO := hO.below hbx hO.lt
      have hB3' := hB3.trans (hbx.mono hB3.size)
      (try clear hP2_c0); (try clear hP2_f0)
      (try clear hP2_c1); (try clear hP2_f1)
      (try clear hP2_c2); (try clear hP2_f2)
      (try clear hP2_lt)
      have hP2_lt := hP2.lt; (try simp only [World.size_alloc] at hP2_lt)
      have hP2_c0 := hP2.cell 0; have hP2_f0 := hP2.frozen 0
      have hP2_c1 := hP2.cell 1; have hP2_f1 := hP2.frozen 1
      have hP2_c2 := hP2.cell 2; have hP2_f2 := hP2.frozen 2
      simp only [List.getElem?_toArray, List.getElem?_cons_zero, List.getElem?_cons_succ] at hP2_c0 hP2_c1 hP2_c2
      (try clear hW2_c0); (try clear hW2_f0)
      (try clear hW2_c1); (try clear hW2_f1)
      (try clear hW2_c2); (try clear hW2_f2)
      (try clear hW2_lt)
      have hW2_lt := hW2.lt; (try simp only [World.size_alloc] at hW2_lt)
      have hW2_c0 := hW2.cell 0; have hW2_f0 := hW2.frozen 0
      have hW2_c1 := hW2.cell 1; have hW2_f1 := hW2.frozen 1
      have hW2_c2 := hW2.cell 2; have hW2_f2 := hW2.frozen 2
      simp only [List.getElem?_toArray, List.getElem?_cons_zero, List.getElem?_cons_succ] at hW2_c0 hW2_c1 hW2_c2
      (try clear hO_c0); (try clear hO_f0)
      (try clear hO_c1); (try clear hO_f1)
      (try clear hO_c2); (try clear hO_f2)
      (try clear hO_lt)
      have hO_lt := hO.lt; (try simp only [World.size_alloc] at hO_lt)
      have hO_c0 := hO.cell 0; have hO_f0 := hO.frozen 0
      have hO_c1 := hO.cell 1; have hO_f1 := hO.frozen 1
      have hO_c2 := hO.cell 2; have hO_f2 := hO.frozen 2
      simp only [List.getElem?_toArray, List.getElem?_cons_zero, List.getElem?_cons_succ] at hO_c0 hO_c1 hO_c2
      (try clear hQ_c0); (try clear hQ_f0)
      (try clear hQ_c1); (try clear hQ_f1)
      (try clear hQ_c2); (try clear hQ_f2)
      (try clear hQ_lt)
      have hQ_lt := hQ.lt; (try simp only [World.size_alloc] at hQ_lt)
      have hQ_c0 := hQ.cell 0; have hQ_f0 := hQ.frozen 0
      have hQ_c1 := hQ.cell 1; have hQ_f1 := hQ.frozen 1
      have hQ_c2 := hQ.cell 2; have hQ_f2 := hQ.frozen 2
      simp only [List.getElem?_toArray, List.getElem?_cons_zero, List.getElem?_cons_succ] at hQ_c0 hQ_c1 hQ_c2
      clear hbx hlen
      go_wp2_with fail
      refine (sameP_same _ _ _ _ _ _ _ _ _ _ hY hY3 (Nat.le_refl _) (by omega)).mono ?_
      rintro x w5 ⟨rfl, hb5⟩
      replace hX := hX.step hb5
      replace hY := hY.step hb5
      replace hP2 := hP2.below hb5 (by first | omega | exact hP2.lt | (simp; done) | (simp; omega))
      (try clear hP2_c0); (try clear hP2_f0)
      (try clear hP2_c1); (try clear hP2_f1)
      (try clear hP2_c2); (try clear hP2_f2)
      (try clear hP2_lt)
      have hP2_lt := hP2.lt; (try simp only [World.size_alloc] at hP2_lt)
      have hP2_c0 := hP2.cell 0; have hP2_f0 := hP2.frozen 0
      have hP2_c1 := hP2.cell 1; have hP2_f1 := hP2.frozen 1
      have hP2_c2 := hP2.cell 2; have hP2_f2 := hP2.frozen 2
      simp only [List.getElem?_toArray, List.getElem?_cons_zero, List.getElem?_cons_succ] at hP2_c0 hP2_c1 hP2_c2
      replace hW2 := hW2.below hb5 (by first | omega | exact hW2.lt | (simp; done) | (simp; omega))
      (try clear hW2_c0); (try clear hW2_f0)
      (try clear hW2_c1); (try clear hW2_f1)
      (try clear hW2_c2); (try clear hW2_f2)
      (try clear hW2_lt)
      have hW2_lt := hW2.lt; (try simp only [World.size_alloc] at hW2_lt)
      have hW2_c0 := hW2.cell 0; have hW2_f0 := hW2.frozen 0
      have hW2_c1 := hW2.cell 1; have hW2_f1 := hW2.frozen 1
      have hW2_c2 := hW2.cell 2; have hW2_f2 := hW2.frozen 2
      simp only [List.getElem?_toArray, List.getElem?_cons_zero, List.getElem?_cons_succ] at hW2_c0 hW2_c1 hW2_c2
      replace hO := hO.below hb5 (by first | omega | exact hO.lt | (simp; done) | (simp; omega))
      (try clear hO_c0); (try clear hO_f0)
      (try clear hO_c1); (try clear hO_f1)
      (try clear hO_c2); (try clear hO_f2)
      (try clear hO_lt)
      have hO_lt := hO.lt; (try simp only [World.size_alloc] at hO_lt)
      have hO_c0 := hO.cell 0; have hO_f0 := hO.frozen 0
      have hO_c1 := hO.cell 1; have hO_f1 := hO.frozen 1
      have hO_c2 := hO.cell 2; have hO_f2 := hO.frozen 2
      simp only [List.getElem?_toArray, List.getElem?_cons_zero, List.getElem?_cons_succ] at hO_c0 hO_c1 hO_c2
      have hB5 := hB3'.trans (hb5.mono hB3'.size)
      have hs5' : w3.heap.size + 1 ≤ w5.heap.size := by have := hb5.size; simpa using this
      (try clear hQ_c0); (try clear hQ_f0)
      (try clear hQ_c1); (try clear hQ_f1)
      (try clear hQ_c2); (try clear hQ_f2)
      (try clear hQ_lt)
      clear hb5 hY3 hQ hB3 hB3' hB2 hB1
      have hh2b := h2b
      have hs5 : w3.heap.size + 1 ≤ w5.heap.size := hs5'
      unfold maxLen at h2b hc'
      have HL := Lib.hid hX.len
      go_wp2_with fail
      go_loopw [9] (fun i wr => ∃ k m : Nat, k ≤ n ∧ i = .int .i64 k ∧ Hid (LeadTo xs ycl k) ∧ wr = w5.drewN m) (fun i _ => n - (intOf i).toNat)
      case atStart => exact ⟨0, 0, by omega, rfl, Lib.hid ⟨by omega, fun j x h => absurd h (by omega)⟩, rfl⟩
      case round =>
        obtain ⟨k, m, hk, rfl, HLT, rfl⟩ := hrel
        have hk0 : (0 : Int) ≤ (k : Int) := Int.natCast_nonneg _
        by_cases hlt : k < n ∧ ∀ z, xs[k]? = some z → z.cl ≤ ycl
        · obtain ⟨hlt, hle⟩ := hlt
          obtain ⟨z, hz⟩ : ∃ z, xs[k]? = some z := ⟨_, List.getElem?_eq_getElem (by rw [HL.out]; exact hlt)⟩
          have hzl := hle z hz
          obtain ⟨b', off', rfl, hb', hcell⟩ := hX.addr (by omega)
          obtain ⟨-, c1', -⟩ := hcell k z hz
          have e0 : decide (k < n) = true := by simpa using hlt
          have e2 : decide (z.cl ≤ ycl) = true := by simpa using hzl
          have hk1 : (k : Int) < (n : Int) := by omega
          have HN := Lib.hid (HLT.out.succ hz hzl)
          clear hcell hz hle
          go_wp2_with fail
          go_quiet (fail)
          go_wp2
          go_roundw
          case rel => exact ⟨k + 1, _, by omega, by go_num, HN, rfl⟩
          case measure => simp [intOf]; omega
        · have hlk : Lead xs ycl k := ⟨HLT.out.1, HLT.out.2, fun z hz => by
            rcases Int.lt_or_le ycl z.cl with h1 | h1
            · exact h1
            · have hkl := (List.getElem?_eq_some_iff.1 hz).1
              exact absurd ⟨by rw [← HL.out]; exact hkl, fun z' hz' => by rw [hz] at hz'; injection hz' with hz'; subst hz'; exact h1⟩ hlt⟩
          have hk3 := Lead.uniq hlk HLD.out
          subst hk3
          have HV := Lib.hid (show ∀ w, Wts w w.heap.size A2 (n + 1) (putAt xs k ⟨yid, ycl, ysz⟩) → Calls Try.prog 17 #[.agg #[.int .i64 ea, .int .i64 cr, .slice A2 (n + 1) c2]] w fun e w' => e = .returned (.bool true) ∧ Below w.heap.size w w' from fun w h => by
            have := ipv_any ea cr A2 (n + 1) c2 (putAt xs k ⟨yid, ycl, ysz⟩) w h (by omega)
            rwa [pB_true.2 (pOk_put HIN.out HLD.out)] at this)
          have hput : (putAt xs k ⟨yid, ycl, ysz⟩)[k]? = some ⟨yid, ycl, ysz⟩ := by
            unfold putAt
            rw [List.getElem?_append_right (by rw [List.length_take]; omega), List.length_take, HL.out, Nat.min_eq_left hk, Nat.sub_self]
            rfl
          have hpt : (putAt xs k ⟨yid, ycl, ysz⟩).take k = xs.take k := by
            unfold putAt
            rw [List.take_append_of_le_length (by rw [List.length_take, HL.out]; omega), List.take_take, Nat.min_self]
          have hpd : (putAt xs k ⟨yid, ycl, ysz⟩).drop (k + 1) = xs.drop k := by
            unfold putAt
            have hlt' : (xs.take k).length = k := by rw [List.length_take, HL.out]; omega
            rw [List.drop_append, hlt', List.drop_of_length_le (by omega), show k + 1 - k = 1 by omega]
            rfl
          obtain ⟨b2, off2, rfl, hb2, hcell2⟩ := hY.addr (by omega)
          obtain ⟨o0, o1, o2⟩ := hcell2 k _ hput
          have HT1 := Lib.hid (show Wts w5 w5.heap.size (some ⟨b2, off2, none⟩) k (xs.take k) by have := hY.take_ (k := k) (by omega); rwa [hpt] at this)
          have HT2 := Lib.hid (hX.take_ hk)
          have HY := Lib.hid hY
          have hkb : k ≤ 1099511627776 := by omega
          have hk2 : (k : Int) ≤ (c : Int) := by omega
          have hk4 : (k : Int) ≤ (c2 : Int) := by omega
          have hk5 : (k : Int) + 1 ≤ (c2 : Int) := by omega
          have hk6 : (k : Int) + 1 ≤ (n : Int) + 1 := by omega
          have hk7 : (k : Int) < (n : Int) + 1 := by omega
          have q8 : (((n + 1 : Nat) : Int) == (n : Int) + 1) = true := by simp
          have q9 : IntKind.i64.wrap ((n : Int) + 1) = (n : Int) + 1 := by rw [IntKind.wrap_i64]; omega
          have q10 : IntKind.i64.wrap ((k : Int) + 1) = (k : Int) + 1 := by rw [IntKind.wrap_i64]; omega
          have q11 : ((k : Int) + 1).toNat = k + 1 := by omega
          have hnb : n - k ≤ 1099511627776 := by omega
          by_cases hkn : k < n
          · obtain ⟨z, hz⟩ : ∃ z, xs[k]? = some z := ⟨_, List.getElem?_eq_getElem (by rw [HL.out]; exact hkn)⟩
            have hzl := hlk.2.2 z hz
            obtain ⟨b', off', rfl, hb', hcell⟩ := hX.addr (by omega)
            obtain ⟨-, c1', -⟩ := hcell k z hz
            have e0 : decide (k < n) = true := by simpa using hkn
            have e2 : decide (z.cl ≤ ycl) = false := by simpa using hzl
            have hk1 : (k : Int) < (n : Int) := by omega
            have hck : ¬ c = k := by omega
            have hck2 : ¬ c2 = k + 1 := by omega
            have HD1 := Lib.hid (show Wts w5 w5.heap.size (some ⟨b2, off2 + (k + 1) * 3, none⟩) (n - k) (xs.drop k) by
              have := hY.drop_ (k := k + 1) (c := c2) (by omega) (by omega) (by omega)
              rw [hpd, show n + 1 - (k + 1) = n - k by omega] at this
              exact this)
            have HD2 := Lib.hid (hX.drop_ (k := k) (c := c) (by omega) (by omega) (by omega))
            clear hcell hcell2 hz hput hpt hpd hlt hlk hY hX
            go_wp2_with fail
            go_quiet (fail)
            go_wp2_with fail
            have hT1 : Wts ((w5.drewN m).drewN nq) ((w5.drewN m).drewN nq).heap.size (some ⟨b2, off2, none⟩) k (xs.take k) := HT1.out
            have hT2 : Wts ((w5.drewN m).drewN nq) ((w5.drewN m).drewN nq).heap.size (some ⟨b', off', none⟩) k (xs.take k) := HT2.out
            have hY : Wts ((w5.drewN m).drewN nq) ((w5.drewN m).drewN nq).heap.size (some ⟨b2, off2, none⟩) (n + 1) (putAt xs k ⟨yid, ycl, ysz⟩) := HY.out
            have hD1 : Wts ((w5.drewN m).drewN nq) ((w5.drewN m).drewN nq).heap.size (some ⟨b2, off2 + (k + 1) * 3, none⟩) (n - k) (xs.drop k) := HD1.out
            have hD2 : Wts ((w5.drewN m).drewN nq) ((w5.drewN m).drewN nq).heap.size (some ⟨b', off' + k * 3, none⟩) (n - k) (xs.drop k) := HD2.out
            have hP3 : Bk ((w5.drewN m).drewN nq) w1.heap.size 25 #[.int .i64 ea, .int .i64 cr, .slice (some ⟨b', off', none⟩) n c] := hP2
            have hW3 : Bk ((w5.drewN m).drewN nq) (w1.heap.size + 1) 27 #[.int .i64 yid, .int .i64 ycl, .int .i64 ysz] := hW2
            have hO3 : Bk ((w5.drewN m).drewN nq) w2.heap.size 25 #[.int .i64 ea, .int .i64 cr, .slice (some ⟨b2, off2, none⟩) (n + 1) c2] := hO
            have o3 : ((w5.drewN m).drewN nq).cell? ⟨b2, off2 + k * 3, none⟩ = some (.int .i64 yid) := o0
            have o4 : ((w5.drewN m).drewN nq).cell? ⟨b2, off2 + k * 3 + 1, none⟩ = some (.int .i64 ycl) := o1
            have o5 : ((w5.drewN m).drewN nq).cell? ⟨b2, off2 + k * 3 + 2, none⟩ = some (.int .i64 ysz) := o2
            have hBW : Below w.heap.size w ((w5.drewN m).drewN nq) := Below.drewN' (Below.drewN' hB5 m) nq
            have hWs : w3.heap.size + 1 ≤ ((w5.drewN m).drewN nq).heap.size := hs5
            (try clear hP2_c0); (try clear hP2_f0)
            (try clear hP2_c1); (try clear hP2_f1)
            (try clear hP2_c2); (try clear hP2_f2)
            (try clear hP2_lt)
            (try clear hW2_c0); (try clear hW2_f0)
            (try clear hW2_c1); (try clear hW2_f1)
            (try clear hW2_c2); (try clear hW2_f2)
            (try clear hW2_lt)
            (try clear hO_c0); (try clear hO_f0)
            (try clear hO_c1); (try clear hO_f1)
            (try clear hO_c2); (try clear hO_f2)
            (try clear hO_lt)
            clear o0 o1 o2 hP2 hW2 hO hB5
            generalize ((w5.drewN m).drewN nq) = W at *
            (try clear hP3_c0); (try clear hP3_f0)
            (try clear hP3_c1); (try clear hP3_f1)
            (try clear hP3_c2); (try clear hP3_f2)
            (try clear hP3_lt)
            have hP3_lt := hP3.lt; (try simp only [World.size_alloc] at hP3_lt)
            have hP3_c0 := hP3.cell 0; have hP3_f0 := hP3.frozen 0
            have hP3_c1 := hP3.cell 1; have hP3_f1 := hP3.frozen 1
            have hP3_c2 := hP3.cell 2; have hP3_f2 := hP3.frozen 2
            simp only [List.getElem?_toArray, List.getElem?_cons_zero, List.getElem?_cons_succ] at hP3_c0 hP3_c1 hP3_c2
            (try clear hW3_c0); (try clear hW3_f0)
            (try clear hW3_c1); (try clear hW3_f1)
            (try clear hW3_c2); (try clear hW3_f2)
            (try clear hW3_lt)
            have hW3_lt := hW3.lt; (try simp only [World.size_alloc] at hW3_lt)
            have hW3_c0 := hW3.cell 0; have hW3_f0 := hW3.frozen 0
            have hW3_c1 := hW3.cell 1; have hW3_f1 := hW3.frozen 1
            have hW3_c2 := hW3.cell 2; have hW3_f2 := hW3.frozen 2
            simp only [List.getElem?_toArray, List.getElem?_cons_zero, List.getElem?_cons_succ] at hW3_c0 hW3_c1 hW3_c2
            (try clear hO3_c0); (try clear hO3_f0)
            (try clear hO3_c1); (try clear hO3_f1)
            (try clear hO3_c2); (try clear hO3_f2)
            (try clear hO3_lt)
            have hO3_lt := hO3.lt; (try simp only [World.size_alloc] at hO3_lt)
            have hO3_c0 := hO3.cell 0; have hO3_f0 := hO3.frozen 0
            have hO3_c1 := hO3.cell 1; have hO3_f1 := hO3.frozen 1
            have hO3_c2 := hO3.cell 2; have hO3_f2 := hO3.frozen 2
            simp only [List.getElem?_toArray, List.getElem?_cons_zero, List.getElem?_cons_succ] at hO3_c0 hO3_c1 hO3_c2
            refine wp_region_cells [(w1.heap.size, 1, .int .i64 cr), (w1.heap.size, 2, .slice (some ⟨b', off', none⟩) n c), (w1.heap.size + 1, 0, .int .i64 yid), (w1.heap.size + 1, 1, .int .i64 ycl), (w1.heap.size + 1, 2, .int .i64 ysz), (w2.heap.size, 0, .int .i64 ea), (w2.heap.size, 1, .int .i64 cr), (w2.heap.size, 2, .slice (some ⟨b2, off2, none⟩) (n + 1) c2), (b2, off2 + k * 3, .int .i64 yid), (b2, off2 + k * 3 + 1, .int .i64 ycl), (b2, off2 + k * 3 + 2, .int .i64 ysz)] (by kernel_rfl) (by kernel_rfl) ?_ ?_
            · simp only [List.forall_mem_cons]
              exact ⟨by go_simp, by go_simp, by go_simp, by go_simp, by go_simp, by go_simp, by go_simp, by go_simp, by go_simp, by go_simp, by go_simp, by simp⟩
            intro hcs
            simp only [List.forall_mem_cons] at hcs
            obtain ⟨dc0, dc1, dc2, dc3, dc4, dc5, dc6, dc7, dc8, dc9, dc10, -⟩ := hcs
            repeat (any_goals (first | go_big_quiet_step ((first | (go_at_call 17; exact BW.calls (Nat.le_refl _) _ (HV.out _ (Wts.bw hY _))) | (go_at_call 18; exact BW.calls (Nat.le_refl _) _ (sameW_below _ _ _ _ _ _ _ _ (Wts.bw hT1 _) (Wts.bw hT2 _) (Nat.le_refl _) hkb)) | (go_at_call 18; exact BW.calls (Nat.le_refl _) _ (sameW_below _ _ _ _ _ _ _ _ (Wts.bw hD1 _) (Wts.bw hD2 _) (Nat.le_refl _) hnb)))) | quiet_step ((first | (go_at_call 17; exact BW.calls (Nat.le_refl _) _ (HV.out _ (Wts.bw hY _))) | (go_at_call 18; exact BW.calls (Nat.le_refl _) _ (sameW_below _ _ _ _ _ _ _ _ (Wts.bw hT1 _) (Wts.bw hT2 _) (Nat.le_refl _) hkb)) | (go_at_call 18; exact BW.calls (Nat.le_refl _) _ (sameW_below _ _ _ _ _ _ _ _ (Wts.bw hD1 _) (Wts.bw hD2 _) (Nat.le_refl _) hnb))))))
            refine wpQuiet_nil ?_
            intro _ hw'
            obtain ⟨xw, hw''⟩ := hw'
            subst hw''
            have hbw := xw.2
            clear dc0 dc1 dc2 dc3 dc4 dc5 dc6 dc7 dc8 dc9 dc10
            generalize xw.1 = ww at hbw ⊢
            clear xw
            obtain ⟨kw, fw⟩ := bcell hbw
            have sw := hbw.size
            go_wp2
            go_ret
            exact ⟨rfl, (by repeat (first | exact Below.refl _ _ | assumption | refine Below.setCell ?_ (by first | omega | (simp; done) | (simp; omega)) _ | refine Below.alloc ?_ (by first | omega | (simp; done) | (simp; omega)) _ | refine Below.drew ?_ | refine Below.drewN' ?_ _ | refine Below.trans ?_ (Below.mono (by assumption) (by first | omega | (simp; done) | (simp; omega)))))⟩
          · have hkn' : k = n := by omega
            subst hkn'
            clear hput hpt hpd hlt hlk hY hX hcell2
            obtain ⟨r1, hr1⟩ : ∃ r : Prop, (c = k) = r ∧ (r = True ∨ r = False) := ⟨c = k, rfl, by by_cases h : c = k; exact .inl (eq_true h); exact .inr (eq_false h)⟩
            obtain ⟨r2, hr2⟩ : ∃ r : Prop, (c2 = k + 1) = r ∧ (r = True ∨ r = False) := ⟨c2 = k + 1, rfl, by by_cases h : c2 = k + 1; exact .inl (eq_true h); exact .inr (eq_false h)⟩
            obtain ⟨hr1, hr1'⟩ := hr1
            obtain ⟨hr2, hr2'⟩ := hr2
            rcases hr1' with rfl | rfl
            all_goals rcases hr2' with rfl | rfl
            all_goals
              go_wp2_with fail
              go_quiet (fail)
              go_wp2_with fail
              have hT1 : Wts ((w5.drewN m).drewN nq) ((w5.drewN m).drewN nq).heap.size (some ⟨b2, off2, none⟩) k (xs.take k) := HT1.out
              have hT2 : Wts ((w5.drewN m).drewN nq) ((w5.drewN m).drewN nq).heap.size A k (xs.take k) := HT2.out
              have hY : Wts ((w5.drewN m).drewN nq) ((w5.drewN m).drewN nq).heap.size (some ⟨b2, off2, none⟩) (k + 1) (putAt xs k ⟨yid, ycl, ysz⟩) := HY.out
              have hP3 : Bk ((w5.drewN m).drewN nq) w1.heap.size 25 #[.int .i64 ea, .int .i64 cr, .slice A k c] := hP2
              have hW3 : Bk ((w5.drewN m).drewN nq) (w1.heap.size + 1) 27 #[.int .i64 yid, .int .i64 ycl, .int .i64 ysz] := hW2
              have hO3 : Bk ((w5.drewN m).drewN nq) w2.heap.size 25 #[.int .i64 ea, .int .i64 cr, .slice (some ⟨b2, off2, none⟩) (k + 1) c2] := hO
              have o3 : ((w5.drewN m).drewN nq).cell? ⟨b2, off2 + k * 3, none⟩ = some (.int .i64 yid) := o0
              have o4 : ((w5.drewN m).drewN nq).cell? ⟨b2, off2 + k * 3 + 1, none⟩ = some (.int .i64 ycl) := o1
              have o5 : ((w5.drewN m).drewN nq).cell? ⟨b2, off2 + k * 3 + 2, none⟩ = some (.int .i64 ysz) := o2
              have hBW : Below w.heap.size w ((w5.drewN m).drewN nq) := Below.drewN' (Below.drewN' hB5 m) nq
              have hWs : w3.heap.size + 1 ≤ ((w5.drewN m).drewN nq).heap.size := hs5
              (try clear hP2_c0); (try clear hP2_f0)
              (try clear hP2_c1); (try clear hP2_f1)
              (try clear hP2_c2); (try clear hP2_f2)
              (try clear hP2_lt)
              (try clear hW2_c0); (try clear hW2_f0)
              (try clear hW2_c1); (try clear hW2_f1)
              (try clear hW2_c2); (try clear hW2_f2)
              (try clear hW2_lt)
              (try clear hO_c0); (try clear hO_f0)
              (try clear hO_c1); (try clear hO_f1)
              (try clear hO_c2); (try clear hO_f2)
              (try clear hO_lt)
              clear o0 o1 o2 hP2 hW2 hO hB5
              generalize ((w5.drewN m).drewN nq) = W at *
              (try clear hP3_c0); (try clear hP3_f0)
              (try clear hP3_c1); (try clear hP3_f1)
              (try clear hP3_c2); (try clear hP3_f2)
              (try clear hP3_lt)
              have hP3_lt := hP3.lt; (try simp only [World.size_alloc] at hP3_lt)
              have hP3_c0 := hP3.cell 0; have hP3_f0 := hP3.frozen 0
              have hP3_c1 := hP3.cell 1; have hP3_f1 := hP3.frozen 1
              have hP3_c2 := hP3.cell 2; have hP3_f2 := hP3.frozen 2
              simp only [List.getElem?_toArray, List.getElem?_cons_zero, List.getElem?_cons_succ] at hP3_c0 hP3_c1 hP3_c2
              (try clear hW3_c0); (try clear hW3_f0)
              (try clear hW3_c1); (try clear hW3_f1)
              (try clear hW3_c2); (try clear hW3_f2)
              (try clear hW3_lt)
              have hW3_lt := hW3.lt; (try simp only [World.size_alloc] at hW3_lt)
              have hW3_c0 := hW3.cell 0; have hW3_f0 := hW3.frozen 0
              have hW3_c1 := hW3.cell 1; have hW3_f1 := hW3.frozen 1
              have hW3_c2 := hW3.cell 2; have hW3_f2 := hW3.frozen 2
              simp only [List.getElem?_toArray, List.getElem?_cons_zero, List.getElem?_cons_succ] at hW3_c0 hW3_c1 hW3_c2
              (try clear hO3_c0); (try clear hO3_f0)
              (try clear hO3_c1); (try clear hO3_f1)
              (try clear hO3_c2); (try clear hO3_f2)
              (try clear hO3_lt)
              have hO3_lt := hO3.lt; (try simp only [World.size_alloc] at hO3_lt)
              have hO3_c0 := hO3.cell 0; have hO3_f0 := hO3.frozen 0
              have hO3_c1 := hO3.cell 1; have hO3_f1 := hO3.frozen 1
              have hO3_c2 := hO3.cell 2; have hO3_f2 := hO3.frozen 2
              simp only [List.getElem?_toArray, List.getElem?_cons_zero, List.getElem?_cons_succ] at hO3_c0 hO3_c1 hO3_c2
              refine wp_region_cells [(w1.heap.size, 1, .int .i64 cr), (w1.heap.size, 2, .slice A k c), (w1.heap.size + 1, 0, .int .i64 yid), (w1.heap.size + 1, 1, .int .i64 ycl), (w1.heap.size + 1, 2, .int .i64 ysz), (w2.heap.size, 0, .int .i64 ea), (w2.heap.size, 1, .int .i64 cr), (w2.heap.size, 2, .slice (some ⟨b2, off2, none⟩) (k + 1) c2), (b2, off2 + k * 3, .int .i64 yid), (b2, off2 + k * 3 + 1, .int .i64 ycl), (b2, off2 + k * 3 + 2, .int .i64 ysz)] (by kernel_rfl) (by kernel_rfl) ?_ ?_
              · simp only [List.forall_mem_cons]
                exact ⟨by go_simp, by go_simp, by go_simp, by go_simp, by go_simp, by go_simp, by go_simp, by go_simp, by go_simp, by go_simp, by go_simp, by simp⟩
              intro hcs
              simp only [List.forall_mem_cons] at hcs
              obtain ⟨dc0, dc1, dc2, dc3, dc4, dc5, dc6, dc7, dc8, dc9, dc10, -⟩ := hcs
              repeat (any_goals (first | go_big_quiet_step ((first | (go_at_call 17; exact BW.calls (Nat.le_refl _) _ (HV.out _ (Wts.bw hY _))) | (go_at_call 18; (with_reducible exact BW.calls (Nat.le_refl _) _ (sameW_below _ _ _ _ _ _ _ _ (Wts.bw hT1 _) (Wts.bw hT2 _) (Nat.le_refl _) hkb))) | (go_at_call 18; (with_reducible exact BW.calls (Nat.le_refl _) _ (sameW_below _ _ 0 _ _ _ [] _ Wts.none_ Wts.none_ (Nat.le_refl _) (by omega)))))) | quiet_step ((first | (go_at_call 17; exact BW.calls (Nat.le_refl _) _ (HV.out _ (Wts.bw hY _))) | (go_at_call 18; (with_reducible exact BW.calls (Nat.le_refl _) _ (sameW_below _ _ _ _ _ _ _ _ (Wts.bw hT1 _) (Wts.bw hT2 _) (Nat.le_refl _) hkb))) | (go_at_call 18; (with_reducible exact BW.calls (Nat.le_refl _) _ (sameW_below _ _ 0 _ _ _ [] _ Wts.none_ Wts.none_ (Nat.le_refl _) (by omega))))))))
              refine wpQuiet_nil ?_
              intro _ hw'
              obtain ⟨xw, hw''⟩ := hw'
              subst hw''
              have hbw := xw.2
              clear dc0 dc1 dc2 dc3 dc4 dc5 dc6 dc7 dc8 dc9 dc10
              generalize xw.1 = ww at hbw ⊢
              clear xw
              obtain ⟨kw, fw⟩ := bcell hbw
              have sw := hbw.size
              go_wp2
              go_ret
              exact ⟨rfl, (by repeat (first | exact Below.refl _ _ | assumption | refine Below.setCell ?_ (by first | omega | (simp; done) | (simp; omega)) _ | refine Below.alloc ?_ (by first | omega | (simp; done) | (simp; omega)) _ | refine Below.drew ?_ | refine Below.drewN' ?_ _ | refine Below.trans ?_ (Below.mono (by assumption) (by first | omega | (simp; done) | (simp; omega)))))⟩
    · go_wp2_with fail
      refine (iput_bad ea cr A n c xs ⟨yid, ycl, ysz⟩ _ hX hn4 hin).mono ?_
      rintro x w2 ⟨rfl, hb2⟩
      replace hX := hX.step hb2
      replace hP := hP.below hb2 (by first | omega | exact hP.lt | (simp; done) | (simp; omega))
      replace hW := hW.below hb2 (by first | omega | exact hW.lt | (simp; done) | (simp; omega))
      have hB2 := hB1.trans (hb2.mono hB1.size)
      have hs2 : w1.heap.size + 1 + 1 ≤ w2.heap.size := by have := hb2.size; simpa using this
      have hbx : Below w2.heap.size w2 (w2.alloc (.cells #[.int .i64 0, .int .i64 0, .slice none 0 0] 25)) := (by repeat (first | exact Below.refl _ _ | assumption | refine Below.setCell ?_ (by first | omega | (simp; done) | (simp; omega)) _ | refine Below.alloc ?_ (by first | omega | (simp; done) | (simp; omega)) _ | refine Below.drew ?_ | refine Below.drewN' ?_ _ | refine Below.trans ?_ (Below.mono (by assumption) (by first | omega | (simp; done) | (simp; omega)))))
      have hO := Bk.new w2 25 #[.int .i64 0, .int .i64 0, .slice none 0 0]
      replace hX := hX.step hbx
      have hB2' := hB2.trans (hbx.mono hB2.size)
      (try clear hP_c0); (try clear hP_f0)
      (try clear hP_c1); (try clear hP_f1)
      (try clear hP_c2); (try clear hP_f2)
      (try clear hP_lt)
      have hP_lt := hP.lt; (try simp only [World.size_alloc] at hP_lt)
      have hP_c0 := hP.cell 0; have hP_f0 := hP.frozen 0
      have hP_c1 := hP.cell 1; have hP_f1 := hP.frozen 1
      have hP_c2 := hP.cell 2; have hP_f2 := hP.frozen 2
      simp only [List.getElem?_toArray, List.getElem?_cons_zero, List.getElem?_cons_succ] at hP_c0 hP_c1 hP_c2
      (try clear hW_c0); (try clear hW_f0)
      (try clear hW_c1); (try clear hW_f1)
      (try clear hW_c2); (try clear hW_f2)
      (try clear hW_lt)
      have hW_lt := hW.lt; (try simp only [World.size_alloc] at hW_lt)
      have hW_c0 := hW.cell 0; have hW_f0 := hW.frozen 0
      have hW_c1 := hW.cell 1; have hW_f1 := hW.frozen 1
      have hW_c2 := hW.cell 2; have hW_f2 := hW.frozen 2
      simp only [List.getElem?_toArray, List.getElem?_cons_zero, List.getElem?_cons_succ] at hW_c0 hW_c1 hW_c2
      clear hbx hb2
      go_wp2_with fail
      refine (sput_bad ea cr A n c xs ⟨yid, ycl, ysz⟩ _ hX hn4 hin).mono ?_
      rintro x w3 ⟨rfl, hb3⟩
      (try clear hP_c0); (try clear hP_f0)
      (try clear hP_c1); (try clear hP_f1)
      (try clear hP_c2); (try clear hP_f2)
      (try clear hP_lt)
      (try clear hW_c0); (try clear hW_f0)
      (try clear hW_c1); (try clear hW_f1)
      (try clear hW_c2); (try clear hW_f2)
      (try clear hW_lt)
      clear hP hW hX
      replace hO := hO.below hb3 (by first | omega | exact hO.lt | (simp; done) | (simp; omega))
      have hB3 := hB2'.trans (hb3.mono hB2'.size)
      have hs3 : w2.heap.size + 1 ≤ w3.heap.size := by have := hb3.size; simpa using this
      have hbx : Below w3.heap.size w3 (w3.alloc (.cells #[.int .i64 0, .int .i64 0, .slice none 0 0] 25)) := (by repeat (first | exact Below.refl _ _ | assumption | refine Below.setCell ?_ (by first | omega | (simp; done) | (simp; omega)) _ | refine Below.alloc ?_ (by first | omega | (simp; done) | (simp; omega)) _ | refine Below.drew ?_ | refine Below.drewN' ?_ _ | refine Below.trans ?_ (Below.mono (by assumption) (by first | omega | (simp; done) | (simp; omega)))))
      have hQ := Bk.new w3 25 #[.int .i64 0, .int .i64 0, .slice none 0 0]
      replace hO := hO.below hbx hO.lt
      have hB3' := hB3.trans (hbx.mono hB3.size)
      (try clear hO_c0); (try clear hO_f0)
      (try clear hO_c1); (try clear hO_f1)
      (try clear hO_c2); (try clear hO_f2)
      (try clear hO_lt)
      have hO_lt := hO.lt; (try simp only [World.size_alloc] at hO_lt)
      have hO_c0 := hO.cell 0; have hO_f0 := hO.frozen 0
      have hO_c1 := hO.cell 1; have hO_f1 := hO.frozen 1
      have hO_c2 := hO.cell 2; have hO_f2 := hO.frozen 2
      simp only [List.getElem?_toArray, List.getElem?_cons_zero, List.getElem?_cons_succ] at hO_c0 hO_c1 hO_c2
      (try clear hQ_c0); (try clear hQ_f0)
      (try clear hQ_c1); (try clear hQ_f1)
      (try clear hQ_c2); (try clear hQ_f2)
      (try clear hQ_lt)
      have hQ_lt := hQ.lt; (try simp only [World.size_alloc] at hQ_lt)
      have hQ_c0 := hQ.cell 0; have hQ_f0 := hQ.frozen 0
      have hQ_c1 := hQ.cell 1; have hQ_f1 := hQ.frozen 1
      have hQ_c2 := hQ.cell 2; have hQ_f2 := hQ.frozen 2
      simp only [List.getElem?_toArray, List.getElem?_cons_zero, List.getElem?_cons_succ] at hQ_c0 hQ_c1 hQ_c2
      clear hb3 hbx
      go_wp2_with fail
      refine (sameP_same _ _ _ _ 0 _ _ _ [] _ Sl.none_ Sl.none_ (Nat.le_refl _) (by omega)).mono ?_
      rintro x w5 ⟨rfl, hb5⟩
      replace hO := hO.below hb5 (by first | omega | exact hO.lt | (simp; done) | (simp; omega))
      (try clear hO_c0); (try clear hO_f0)
      (try clear hO_c1); (try clear hO_f1)
      (try clear hO_c2); (try clear hO_f2)
      (try clear hO_lt)
      have hO_lt := hO.lt; (try simp only [World.size_alloc] at hO_lt)
      have hO_c0 := hO.cell 0; have hO_f0 := hO.frozen 0
      have hO_c1 := hO.cell 1; have hO_f1 := hO.frozen 1
      have hO_c2 := hO.cell 2; have hO_f2 := hO.frozen 2
      simp only [List.getElem?_toArray, List.getElem?_cons_zero, List.getElem?_cons_succ] at hO_c0 hO_c1 hO_c2
      replace hQ := hQ.below hb5 (by first | omega | exact hQ.lt | (simp; done) | (simp; omega))
      (try clear hQ_c0); (try clear hQ_f0)
      (try clear hQ_c1); (try clear hQ_f1)
      (try clear hQ_c2); (try clear hQ_f2)
      (try clear hQ_lt)
      have hQ_lt := hQ.lt; (try simp only [World.size_alloc] at hQ_lt)
      have hQ_c0 := hQ.cell 0; have hQ_f0 := hQ.frozen 0
      have hQ_c1 := hQ.cell 1; have hQ_f1 := hQ.frozen 1
      have hQ_c2 := hQ.cell 2; have hQ_f2 := hQ.frozen 2
      simp only [List.getElem?_toArray, List.getElem?_cons_zero, List.getElem?_cons_succ] at hQ_c0 hQ_c1 hQ_c2
      have hB5 := hB3'.trans (hb5.mono hB3'.size)
      clear hb5
      go_wp2_with fail
      refine (sameP_same _ _ _ _ 0 _ _ _ [] _ Sl.none_ Sl.none_ (Nat.le_refl _) (by omega)).mono ?_
      rintro x w6 ⟨rfl, hb6⟩
      have hB6 := hB5.trans (hb6.mono hB5.size)
      go_wp2
      go_ret
      exact ⟨rfl, hB6⟩

/-! ### THE ROW's STEP: WRITTEN OUT: LEAVE IT -/
set_option maxRecDepth 100000 in
theorem lifted (os : Os) (started : os.Started) (H : Type) (enc : TypeId × Value → H) :
    ReturnsInHanded {} Try.checked os 3 .any (Rows.fnPacerPutSpec.pre6 enc Try.prog Try.f3 Rows.fnPacerPutRow.domain false) (Rows.fnPacerPutSpec.post enc Try.prog Try.f3 false true false false) := by
  refine returnsInHanded_of_change (C := Try.checked) own started (by kernel_rfl) Try.func3
    (ChangeSpec.witness6 (enc := enc) (C := Try.checked) false ⟨#[], #[.slice none 0 0], []⟩ 8 (by kernel_rfl) (by kernel_rfl) (by kernel_rfl) (by kernel_rfl)) ?_
  intro W base args ds gs before hval0 hW hcnd _
  have hval : ∀ (j : Nat) t v, Try.f3.params[j]? = some t → args[j]? = some v → Value.okWide Try.prog W .any base t v := hval0
  have hW' := hW
  obtain ⟨p, q, hA0, hV, rfl, hfz, hnd⟩ := hW
  have hA : DataW.TrodAll enc Try.prog W 0 (fun _ => true) true Try.f3.params.toList args.toList ds p := hA0
  rw [Try.params3] at hA hval
  obtain ⟨v0, vs0, d0, ds0, p0, q0, hargs, rfl, rfl, h0, r0⟩ := trodAll_cons hA
  obtain ⟨rfl, rfl, rfl⟩ := trodAll_nil r0
  obtain rfl : args = #[v0] := by cases args; simp_all
  obtain ⟨rfl, rfl⟩ := trodVars_none hV
  obtain ⟨a0, len0, cap0, rfl⟩ := okWide_slice Try.underlying22 (hval 0 22 v0 rfl rfl)
  have k0 := h0
  have lt0 : ∀ x ∈ p0, x.block < W.heap.size := by obtain ⟨m, hm⟩ := k0; exact DataW.trod_lt m _ _ _ hm
  obtain ⟨z0, w0⟩ : ∃ zs, IsRow .u8 W a0 len0 cap0 zs := by
    obtain ⟨fuel, hf⟩ := h0
    rcases open_ints Try.underlying22 Try.underlying5 (by kernel_rfl) hf with ⟨hcs, _⟩ | ⟨x, l, c, zs, hcs, _, hl, hm, hz, _, hcell, hwz⟩
    · simp [Value.cells] at hcs
      obtain ⟨rfl, rfl, rfl⟩ := hcs
      exact ⟨[], .inl ⟨rfl, rfl, rfl, rfl⟩⟩
    · simp [Value.cells] at hcs
      obtain ⟨rfl, rfl, rfl⟩ := hcs
      exact ⟨zs, .inr ⟨_, rfl, hl, hm, by simpa using hz, hcell, hwz⟩⟩
  clear hA0 hval0
  refine (walk a0 len0 cap0 z0 W w0).mono fun e W' ⟨he, bel⟩ => ?_
  subst he
  exact ⟨_, rfl, _, _, _, [], _, [], hW', trodAll_mk1 (shut_bool Try.underlying4 _), (trodAll_cons_mk (Below.trod laidOut (by kernel_rfl) (of_decide_eq_true (by kernel_rfl)) k0 bel lt0) trodAll_mk0), rfl, bel.frame _, fun h => by cases h⟩

theorem over : Rows.fnPacerPutRow.holds Try.pinned (OpenSpec.ofChange Rows.fnPacerPutSpec) :=
  OpenClaim.holds_of_wide 3 Try.f3 rfl rfl rfl rfl rfl rfl rfl ⟨rfl, rfl, rfl, rfl, rfl⟩ rfl rfl rfl rfl rfl (by kernel_rfl) Try.func3 (by kernel_rfl)
    (of_decide_eq_true (by kernel_rfl)) (by unfold Func.isWrapper; first | (rw [if_pos (by decide +kernel)]; kernel_rfl) | (rw [if_neg (by decide +kernel)]; exact ⟨rfl, rfl⟩))
    (fun os started H enc _ => lifted os started H enc)

/--  THE STATEMENT  -/
theorem proved : Rows.FnPacerPutSaid := over
#print axioms proved
end Go.Proofs.Ytilokgloocbbnaa.fnPacerPut
