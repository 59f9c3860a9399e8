/-
  The statement FnStatsPutLost: the law returns true for every input, and what was there before the call has not turned.
  No condition beyond the given statement.
-/
import Derived.Test.YtambjhapnhmmmaaRows
import Derived.WalkKit
import Derived.ProofKit
import Derived.OpenShut
import Derived.ShutString
import Derived.ChangeOld
import Derived.Below
import Derived.Test.YtambjhapnhmmmaaStats
import Derived.Test.YtambjhapnhmmmaaStatsB
import Derived.Test.YtambjhapnhmmmaaStatsC
import Derived.Test.YtambjhapnhmmmaaStatsD
import Derived.Test.YtambjhapnhmmmaaStatsE
import Derived.Test.YtambjhapnhmmmaaStatsF
import Derived.Test.YtambjhapnhmmmaaStatsG
namespace Go.Proofs.Ytambjhapnhmmmaa.fnStatsPutLost
open Go.ChangeShapes Go.WideShapes Go.ChangeAt Go.RowKit
open Go.ChangeMaps (open_string shut_string)
set_option linter.unusedVariables false

theorem own : ownKnob Try.prog.godebug = none := by kernel_rfl
theorem laidOut : laidOutB Try.prog = true := by kernel_rfl

/-- WHAT THE WALK IS TOLD OF A SLICE OF INTEGERS THAT CAME IN: it is nil; or it leads to a row of 'cap' cells, the numbers 'zs' (the first 'len' are its elements, the rest its spare room), each fitting its kind. -/
def IsRow (k : IntKind) (w : World) (a : Option Addr) (len cap : Nat) (zs : List Int) : Prop :=
  (a = none ∧ len = 0 ∧ cap = 0 ∧ zs = []) ∨
  ∃ x, a = some x ∧ len ≤ cap ∧ cap ≤ maxLen ∧ zs.length = cap ∧ (∀ i, i < zs.length → w.cell? (x.add i) = some (.int k (zs.getD i 0))) ∧ ∀ n ∈ zs, (Lit.int k n).wf = true

theorem put_bd {a b c d e wd t cm : Int} (h : PutOk a b c d e wd t cm) : 0 ≤ putD d e t cm ∧ putD d e t cm ≤ 3199968 := ⟨h.2.2.2.2.2.2.2.2.1, h.2.2.2.2.2.2.2.2.2.1⟩
def ATrue : Prop := True
def IL (a b c d e wd pd tr : Int) : Nat → Value → World → Prop
  | 0, v, _ => v = .agg #[.int .i64 a, .int .i64 (max b wd), .int .i64 (c + 1), .int .i64 pd, .int .i64 tr]
  | 1, v, _ => v = .int .i64 (max b wd - a + 1 - (c + 1))
  | 2, v, _ => v = .agg #[.int .i64 a, .int .i64 b, .int .i64 c, .int .i64 d, .int .i64 e]
  | 3, v, _ => v = .int .i64 (b - a + 1 - c)
  | 4, v, _ => v = .int .i64 (max b wd - a + 1 - (c + 1) - (b - a + 1 - c))
  | 5, v, _ => v = .int .i64 (max b wd - a + 1 - (c + 1) - (b - a + 1 - c))
  | _, _, _ => True

/-! ### STEP 1: THE WALK: the Go text returns true, AND WRITES NOTHING THAT WAS THERE: 'Below w.heap.size w w'' (Derived/Below.lean: '.refl', '.alloc', '.drew', '.setCell' at a new block, '.trans'). Open each 'IsRow' by 'rcases' AHEAD of 'go_enter'; part every test ahead of the walk. -/
set_option maxHeartbeats 4000000 in
set_option maxRecDepth 100000 in
theorem walk (a0 : Option Addr) (len0 cap0 : Nat) (z0 : List Int) (w : World) (w0 : IsRow .u8 w a0 len0 cap0 z0) :
    Calls Try.prog 13 #[.slice a0 len0 cap0] w fun e w' => e = .returned (.bool true) ∧ Below w.heap.size w w' := by
  obtain ⟨hb, hnc, hc⟩ := bytes_of_row w0
  have hcm := hc
  unfold maxLen at hcm
  by_cases hbig : 1048576 < len0
  · have e1 : decide (1048576 < len0) = true := by simpa using hbig
    go_enter Try.func13, Try.ntmps13
    go_wp2
    go_ret
    exact ⟨rfl, Below.refl _ _⟩
  · have e1 : decide (1048576 < len0) = false := by simpa using hbig
    go_enter Try.func13, Try.ntmps13
    go_wp2_with fail
    refine (draw_put a0 len0 cap0 _ hb hnc hc).mono ?_
    rintro x w1 ⟨a, b, c, d, e', wd, t, cm, rfl, hbel⟩
    have s1 := hbel.size
    have hS := Bk.new w1 31 #[.int .i64 a, .int .i64 b, .int .i64 c, .int .i64 d, .int .i64 e']
    by_cases hok : PutOk a b c d e' wd t cm
    · have hi := fun w => iput_ok a b c d e' wd t cm w hok
      have hs := fun w => sput_ok a b c d e' wd t cm w hok
      unfold putGood at hi hs
      obtain ⟨p0, p1⟩ := put_bd hok
      obtain ⟨⟨⟨a1, a2, a3, a4, a5, a6, a7, a8, a9, a10, a11⟩, ⟨b1, b2, b3, b4, b5, b6⟩, c1⟩, d1⟩ := id hok
      have hv := fun w => ilost_ok a (max b wd) (c + 1) (putD d e' t cm) (cm - t) w d1
      have hv2 := fun w => ilost_ok a b c d e' w ⟨a1, a2, a3, a4, a5, a6, a7, a8, a9, a10, a11⟩
      generalize putD d e' t cm = pd at *
      have HI := Lib.hid hi
      have HS := Lib.hid hs
      clear hi hs hok d1
      have hmx := fun (w : World) (ts : Array TypeId) (t : TypeId) (x y : Int) => run_max_plain (P := Try.prog) w ts t x y
      go_wp2_with fail
      refine (HI.out _).mono ?_
      rintro x w2 ⟨rfl, hb2⟩
      have hB2 : Below w.heap.size w w2 := (by repeat (first | exact Below.refl _ _ | assumption | refine Below.setCell ?_ (by first | omega | (simp; done) | (simp; omega)) _ | refine Below.alloc ?_ (by first | omega | (simp; done) | (simp; omega)) _ | refine Below.drew ?_ | refine Below.drewN' ?_ _ | refine Below.trans ?_ (Below.mono (by assumption) (by first | omega | (simp; done) | (simp; omega)))))
      have s2 := hB2.size
      replace hS := hS.below hb2 (by first | omega | (simp; done) | (simp; omega))
      (try clear hS_c0); (try clear hS_f0)
      (try clear hS_c1); (try clear hS_f1)
      (try clear hS_c2); (try clear hS_f2)
      (try clear hS_c3); (try clear hS_f3)
      (try clear hS_c4); (try clear hS_f4)
      (try clear hS_lt)
      have hS_lt := hS.lt; (try simp only [World.size_alloc] at hS_lt)
      have hS_c0 := hS.cell 0; have hS_f0 := hS.frozen 0
      have hS_c1 := hS.cell 1; have hS_f1 := hS.frozen 1
      have hS_c2 := hS.cell 2; have hS_f2 := hS.frozen 2
      have hS_c3 := hS.cell 3; have hS_f3 := hS.frozen 3
      have hS_c4 := hS.cell 4; have hS_f4 := hS.frozen 4
      simp only [List.getElem?_toArray, List.getElem?_cons_zero, List.getElem?_cons_succ] at hS_c0 hS_c1 hS_c2 hS_c3 hS_c4
      have hO := Bk.new w2 31 #[.int .i64 a, .int .i64 (max b wd), .int .i64 (c + 1), .int .i64 pd, .int .i64 (cm - t)]
      clear hb2
      go_wp2_with fail
      refine (HS.out _).mono ?_
      rintro x w3 ⟨rfl, hb3⟩
      have hB3 : Below w.heap.size w w3 := (by repeat (first | exact Below.refl _ _ | assumption | refine Below.setCell ?_ (by first | omega | (simp; done) | (simp; omega)) _ | refine Below.alloc ?_ (by first | omega | (simp; done) | (simp; omega)) _ | refine Below.drew ?_ | refine Below.drewN' ?_ _ | refine Below.trans ?_ (Below.mono (by assumption) (by first | omega | (simp; done) | (simp; omega)))))
      have s3 := hB3.size
      replace hS := hS.alloc (.cells #[.int .i64 a, .int .i64 (max b wd), .int .i64 (c + 1), .int .i64 pd, .int .i64 (cm - t)] 31)
      replace hS := hS.below hb3 (by first | omega | (simp; done) | (simp; omega))
      replace hO := hO.below hb3 (by first | omega | (simp; done) | (simp; omega))
      replace hS := hS.alloc (.cells #[.int .i64 a, .int .i64 (max b wd), .int .i64 (c + 1), .int .i64 pd, .int .i64 (cm - t)] 31)
      replace hO := hO.alloc (.cells #[.int .i64 a, .int .i64 (max b wd), .int .i64 (c + 1), .int .i64 pd, .int .i64 (cm - t)] 31)
      have l3 : w2.heap.size < w3.heap.size := by have := hb3.size; simp only [World.size_alloc] at this; omega
      clear hb3 hB2
      (try clear hS_c0); (try clear hS_f0)
      (try clear hS_c1); (try clear hS_f1)
      (try clear hS_c2); (try clear hS_f2)
      (try clear hS_c3); (try clear hS_f3)
      (try clear hS_c4); (try clear hS_f4)
      (try clear hS_lt)
      have hS_lt := hS.lt; (try simp only [World.size_alloc] at hS_lt)
      have hS_c0 := hS.cell 0; have hS_f0 := hS.frozen 0
      have hS_c1 := hS.cell 1; have hS_f1 := hS.frozen 1
      have hS_c2 := hS.cell 2; have hS_f2 := hS.frozen 2
      have hS_c3 := hS.cell 3; have hS_f3 := hS.frozen 3
      have hS_c4 := hS.cell 4; have hS_f4 := hS.frozen 4
      simp only [List.getElem?_toArray, List.getElem?_cons_zero, List.getElem?_cons_succ] at hS_c0 hS_c1 hS_c2 hS_c3 hS_c4
      (try clear hO_c0); (try clear hO_f0)
      (try clear hO_c1); (try clear hO_f1)
      (try clear hO_c2); (try clear hO_f2)
      (try clear hO_c3); (try clear hO_f3)
      (try clear hO_c4); (try clear hO_f4)
      (try clear hO_lt)
      have hO_lt := hO.lt; (try simp only [World.size_alloc] at hO_lt)
      have hO_c0 := hO.cell 0; have hO_f0 := hO.frozen 0
      have hO_c1 := hO.cell 1; have hO_f1 := hO.frozen 1
      have hO_c2 := hO.cell 2; have hO_f2 := hO.frozen 2
      have hO_c3 := hO.cell 3; have hO_f3 := hO.frozen 3
      have hO_c4 := hO.cell 4; have hO_f4 := hO.frozen 4
      simp only [List.getElem?_toArray, List.getElem?_cons_zero, List.getElem?_cons_succ] at hO_c0 hO_c1 hO_c2 hO_c3 hO_c4
      have HV := Lib.hid hv
      have HV2 := Lib.hid hv2
      clear hv hv2
      by_cases hq : b < wd
      · have q1 : decide (b < wd) = true := by simpa using hq
        have q2 : (max b wd - a + 1 - (c + 1) - (b - a + 1 - c) == wd - b - 1) = true := by simp; omega
        go_wp2_with fail
        refine wp_region_inv (fun _ w' => Below (w3.heap.size + 1) (w3.alloc (.cells #[.int .i64 a, .int .i64 (max b wd), .int .i64 (c + 1), .int .i64 pd, .int .i64 (cm - t)] 31)) w') (fun _ _ => ATrue) (IL a b c d e' wd pd (cm - t)) (by kernel_rfl) (by kernel_rfl) (by kernel_rfl) (Below.drew (Below.refl _ _)) (fun j v w w' _ h => by unfold IL at *; split at h <;> exact h) ⟨?_, ?_, ?_, ?_, ?_, ?_, trivial⟩ ?_
        · intro n x wv hn hb hd
          clear hn hd
          replace hO := hO.below hb (by simpa using hO.lt)
          (try clear hO_c0); (try clear hO_f0)
          (try clear hO_c1); (try clear hO_f1)
          (try clear hO_c2); (try clear hO_f2)
          (try clear hO_c3); (try clear hO_f3)
          (try clear hO_c4); (try clear hO_f4)
          (try clear hO_lt)
          have hO_lt := hO.lt; (try simp only [World.size_alloc] at hO_lt)
          have hO_c0 := hO.cell 0; have hO_f0 := hO.frozen 0
          have hO_c1 := hO.cell 1; have hO_f1 := hO.frozen 1
          have hO_c2 := hO.cell 2; have hO_f2 := hO.frozen 2
          have hO_c3 := hO.cell 3; have hO_f3 := hO.frozen 3
          have hO_c4 := hO.cell 4; have hO_f4 := hO.frozen 4
          simp only [List.getElem?_toArray, List.getElem?_cons_zero, List.getElem?_cons_succ] at hO_c0 hO_c1 hO_c2 hO_c3 hO_c4
          refine ⟨?_⟩
          simp only [fill, Act.put, List.setIfInBounds_toArray, List.set_cons_zero, List.set_cons_succ]
          go_simp
          first | exact ⟨trivial, hb, rfl⟩ | exact ⟨trivial, rfl⟩ | exact ⟨trivial, by show Value.int .i64 (IntKind.i64.wrap _) = _; rw [IntKind.wrap_i64]; congr 1; omega⟩
        · intro n x wv hn hb hd
          simp [IL, Region.binds] at hd
          clear hn
          refine ⟨?_⟩
          simp only [fill, Act.put, List.setIfInBounds_toArray, List.set_cons_zero, List.set_cons_succ]
          go_simp
          refine (HV.out _).mono ?_
          rintro y w5 ⟨rfl, hb5⟩
          exact ⟨trivial, hb.trans (hb5.mono (by have := hb.size; simp at this; omega)), rfl⟩
        · intro n x wv hn hb hd
          clear hn hd
          replace hS := hS.below hb (by simpa using hS.lt)
          (try clear hS_c0); (try clear hS_f0)
          (try clear hS_c1); (try clear hS_f1)
          (try clear hS_c2); (try clear hS_f2)
          (try clear hS_c3); (try clear hS_f3)
          (try clear hS_c4); (try clear hS_f4)
          (try clear hS_lt)
          have hS_lt := hS.lt; (try simp only [World.size_alloc] at hS_lt)
          have hS_c0 := hS.cell 0; have hS_f0 := hS.frozen 0
          have hS_c1 := hS.cell 1; have hS_f1 := hS.frozen 1
          have hS_c2 := hS.cell 2; have hS_f2 := hS.frozen 2
          have hS_c3 := hS.cell 3; have hS_f3 := hS.frozen 3
          have hS_c4 := hS.cell 4; have hS_f4 := hS.frozen 4
          simp only [List.getElem?_toArray, List.getElem?_cons_zero, List.getElem?_cons_succ] at hS_c0 hS_c1 hS_c2 hS_c3 hS_c4
          refine ⟨?_⟩
          simp only [fill, Act.put, List.setIfInBounds_toArray, List.set_cons_zero, List.set_cons_succ]
          go_simp
          first | exact ⟨trivial, hb, rfl⟩ | exact ⟨trivial, rfl⟩ | exact ⟨trivial, by show Value.int .i64 (IntKind.i64.wrap _) = _; rw [IntKind.wrap_i64]; congr 1; omega⟩
        · intro n x wv hn hb hd
          simp [IL, Region.binds] at hd
          obtain ⟨hd, _⟩ := hd
          clear hn
          refine ⟨?_⟩
          simp only [fill, Act.put, List.setIfInBounds_toArray, List.set_cons_zero, List.set_cons_succ]
          go_simp
          refine (HV2.out _).mono ?_
          rintro y w5 ⟨rfl, hb5⟩
          exact ⟨trivial, hb.trans (hb5.mono (by have := hb.size; simp at this; omega)), rfl⟩
        · intro n x wv hn hb hd
          simp [IL, Region.binds] at hd
          obtain ⟨h1, h2⟩ := hd
          clear hn
          refine ⟨?_⟩
          simp only [fill, Act.put, List.setIfInBounds_toArray, List.set_cons_zero, List.set_cons_succ]
          go_simp
          first | exact ⟨trivial, hb, rfl⟩ | exact ⟨trivial, rfl⟩ | exact ⟨trivial, by show Value.int .i64 (IntKind.i64.wrap _) = _; rw [IntKind.wrap_i64]; congr 1; omega⟩
        · intro n x wv hn hb hd
          simp [IL, Region.binds] at hd
          have h1 := hd.1
          clear hn hd
          refine ⟨?_⟩
          simp only [fill, Act.put, List.setIfInBounds_toArray, List.set_cons_zero, List.set_cons_succ]
          go_simp
          first | exact ⟨trivial, hb, rfl⟩ | exact ⟨trivial, rfl⟩ | exact ⟨trivial, by show Value.int .i64 (IntKind.i64.wrap _) = _; rw [IntKind.wrap_i64]; congr 1; omega⟩
        · intro x ww hb hI
          have hx := hI 5 (by decide)
          have hB5 : Below w.heap.size w ww := hB3.trans ((((Below.refl w3.heap.size w3).alloc (Nat.le_refl _) _).trans (hb.mono (by omega))).mono s3)
          clear hI
          replace hS := hS.below hb (by simpa using hS.lt)
          (try clear hS_c0); (try clear hS_f0)
          (try clear hS_c1); (try clear hS_f1)
          (try clear hS_c2); (try clear hS_f2)
          (try clear hS_c3); (try clear hS_f3)
          (try clear hS_c4); (try clear hS_f4)
          (try clear hS_lt)
          have hS_lt := hS.lt; (try simp only [World.size_alloc] at hS_lt)
          have hS_c0 := hS.cell 0; have hS_f0 := hS.frozen 0
          have hS_c1 := hS.cell 1; have hS_f1 := hS.frozen 1
          have hS_c2 := hS.cell 2; have hS_f2 := hS.frozen 2
          have hS_c3 := hS.cell 3; have hS_f3 := hS.frozen 3
          have hS_c4 := hS.cell 4; have hS_f4 := hS.frozen 4
          simp only [List.getElem?_toArray, List.getElem?_cons_zero, List.getElem?_cons_succ] at hS_c0 hS_c1 hS_c2 hS_c3 hS_c4
          refine ⟨?_⟩
          simp only [fill, Act.put, List.setIfInBounds_toArray, List.set_cons_zero, List.set_cons_succ]
          simp only [IL] at hx
          simp only [hx]
          go_wp2
          go_ret
          exact ⟨rfl, hB5⟩
      · have q1 : decide (b < wd) = false := by simpa using hq
        have q2 : (max b wd - a + 1 - (c + 1) - (b - a + 1 - c) == -1) = true := by simp; omega
        go_wp2_with fail
        refine wp_region_inv (fun _ w' => Below (w3.heap.size + 1) (w3.alloc (.cells #[.int .i64 a, .int .i64 (max b wd), .int .i64 (c + 1), .int .i64 pd, .int .i64 (cm - t)] 31)) w') (fun _ _ => ATrue) (IL a b c d e' wd pd (cm - t)) (by kernel_rfl) (by kernel_rfl) (by kernel_rfl) (Below.drew (Below.refl _ _)) (fun j v w w' _ h => by unfold IL at *; split at h <;> exact h) ⟨?_, ?_, ?_, ?_, ?_, ?_, trivial⟩ ?_
        · intro n x wv hn hb hd
          clear hn hd
          replace hO := hO.below hb (by simpa using hO.lt)
          (try clear hO_c0); (try clear hO_f0)
          (try clear hO_c1); (try clear hO_f1)
          (try clear hO_c2); (try clear hO_f2)
          (try clear hO_c3); (try clear hO_f3)
          (try clear hO_c4); (try clear hO_f4)
          (try clear hO_lt)
          have hO_lt := hO.lt; (try simp only [World.size_alloc] at hO_lt)
          have hO_c0 := hO.cell 0; have hO_f0 := hO.frozen 0
          have hO_c1 := hO.cell 1; have hO_f1 := hO.frozen 1
          have hO_c2 := hO.cell 2; have hO_f2 := hO.frozen 2
          have hO_c3 := hO.cell 3; have hO_f3 := hO.frozen 3
          have hO_c4 := hO.cell 4; have hO_f4 := hO.frozen 4
          simp only [List.getElem?_toArray, List.getElem?_cons_zero, List.getElem?_cons_succ] at hO_c0 hO_c1 hO_c2 hO_c3 hO_c4
          refine ⟨?_⟩
          simp only [fill, Act.put, List.setIfInBounds_toArray, List.set_cons_zero, List.set_cons_succ]
          go_simp
          first | exact ⟨trivial, hb, rfl⟩ | exact ⟨trivial, rfl⟩ | exact ⟨trivial, by show Value.int .i64 (IntKind.i64.wrap _) = _; rw [IntKind.wrap_i64]; congr 1; omega⟩
        · intro n x wv hn hb hd
          simp [IL, Region.binds] at hd
          clear hn
          refine ⟨?_⟩
          simp only [fill, Act.put, List.setIfInBounds_toArray, List.set_cons_zero, List.set_cons_succ]
          go_simp
          refine (HV.out _).mono ?_
          rintro y w5 ⟨rfl, hb5⟩
          exact ⟨trivial, hb.trans (hb5.mono (by have := hb.size; simp at this; omega)), rfl⟩
        · intro n x wv hn hb hd
          clear hn hd
          replace hS := hS.below hb (by simpa using hS.lt)
          (try clear hS_c0); (try clear hS_f0)
          (try clear hS_c1); (try clear hS_f1)
          (try clear hS_c2); (try clear hS_f2)
          (try clear hS_c3); (try clear hS_f3)
          (try clear hS_c4); (try clear hS_f4)
          (try clear hS_lt)
          have hS_lt := hS.lt; (try simp only [World.size_alloc] at hS_lt)
          have hS_c0 := hS.cell 0; have hS_f0 := hS.frozen 0
          have hS_c1 := hS.cell 1; have hS_f1 := hS.frozen 1
          have hS_c2 := hS.cell 2; have hS_f2 := hS.frozen 2
          have hS_c3 := hS.cell 3; have hS_f3 := hS.frozen 3
          have hS_c4 := hS.cell 4; have hS_f4 := hS.frozen 4
          simp only [List.getElem?_toArray, List.getElem?_cons_zero, List.getElem?_cons_succ] at hS_c0 hS_c1 hS_c2 hS_c3 hS_c4
          refine ⟨?_⟩
          simp only [fill, Act.put, List.setIfInBounds_toArray, List.set_cons_zero, List.set_cons_succ]
          go_simp
          first | exact ⟨trivial, hb, rfl⟩ | exact ⟨trivial, rfl⟩ | exact ⟨trivial, by show Value.int .i64 (IntKind.i64.wrap _) = _; rw [IntKind.wrap_i64]; congr 1; omega⟩
        · intro n x wv hn hb hd
          simp [IL, Region.binds] at hd
          obtain ⟨hd, _⟩ := hd
          clear hn
          refine ⟨?_⟩
          simp only [fill, Act.put, List.setIfInBounds_toArray, List.set_cons_zero, List.set_cons_succ]
          go_simp
          refine (HV2.out _).mono ?_
          rintro y w5 ⟨rfl, hb5⟩
          exact ⟨trivial, hb.trans (hb5.mono (by have := hb.size; simp at this; omega)), rfl⟩
        · intro n x wv hn hb hd
          simp [IL, Region.binds] at hd
          obtain ⟨h1, h2⟩ := hd
          clear hn
          refine ⟨?_⟩
          simp only [fill, Act.put, List.setIfInBounds_toArray, List.set_cons_zero, List.set_cons_succ]
          go_simp
          first | exact ⟨trivial, hb, rfl⟩ | exact ⟨trivial, rfl⟩ | exact ⟨trivial, by show Value.int .i64 (IntKind.i64.wrap _) = _; rw [IntKind.wrap_i64]; congr 1; omega⟩
        · intro n x wv hn hb hd
          simp [IL, Region.binds] at hd
          have h1 := hd.1
          clear hn hd
          refine ⟨?_⟩
          simp only [fill, Act.put, List.setIfInBounds_toArray, List.set_cons_zero, List.set_cons_succ]
          go_simp
          first | exact ⟨trivial, hb, rfl⟩ | exact ⟨trivial, rfl⟩ | exact ⟨trivial, by show Value.int .i64 (IntKind.i64.wrap _) = _; rw [IntKind.wrap_i64]; congr 1; omega⟩
        · intro x ww hb hI
          have hx := hI 5 (by decide)
          have hB5 : Below w.heap.size w ww := hB3.trans ((((Below.refl w3.heap.size w3).alloc (Nat.le_refl _) _).trans (hb.mono (by omega))).mono s3)
          clear hI
          replace hS := hS.below hb (by simpa using hS.lt)
          (try clear hS_c0); (try clear hS_f0)
          (try clear hS_c1); (try clear hS_f1)
          (try clear hS_c2); (try clear hS_f2)
          (try clear hS_c3); (try clear hS_f3)
          (try clear hS_c4); (try clear hS_f4)
          (try clear hS_lt)
          have hS_lt := hS.lt; (try simp only [World.size_alloc] at hS_lt)
          have hS_c0 := hS.cell 0; have hS_f0 := hS.frozen 0
          have hS_c1 := hS.cell 1; have hS_f1 := hS.frozen 1
          have hS_c2 := hS.cell 2; have hS_f2 := hS.frozen 2
          have hS_c3 := hS.cell 3; have hS_f3 := hS.frozen 3
          have hS_c4 := hS.cell 4; have hS_f4 := hS.frozen 4
          simp only [List.getElem?_toArray, List.getElem?_cons_zero, List.getElem?_cons_succ] at hS_c0 hS_c1 hS_c2 hS_c3 hS_c4
          refine ⟨?_⟩
          simp only [fill, Act.put, List.setIfInBounds_toArray, List.set_cons_zero, List.set_cons_succ]
          simp only [IL] at hx
          simp only [hx]
          go_wp2
          go_ret
          exact ⟨rfl, hB5⟩
    · go_wp2_with fail
      refine (iput_no a b c d e' wd t cm _ hok).mono ?_
      rintro x w2 ⟨rfl, hb2⟩
      have hB2 : Below w.heap.size w w2 := (by repeat (first | exact Below.refl _ _ | assumption | refine Below.setCell ?_ (by first | omega | (simp; done) | (simp; omega)) _ | refine Below.alloc ?_ (by first | omega | (simp; done) | (simp; omega)) _ | refine Below.drew ?_ | refine Below.drewN' ?_ _ | refine Below.trans ?_ (Below.mono (by assumption) (by first | omega | (simp; done) | (simp; omega)))))
      have s2 := hB2.size
      replace hS := hS.below hb2 (by first | omega | (simp; done) | (simp; omega))
      (try clear hS_c0); (try clear hS_f0)
      (try clear hS_c1); (try clear hS_f1)
      (try clear hS_c2); (try clear hS_f2)
      (try clear hS_c3); (try clear hS_f3)
      (try clear hS_c4); (try clear hS_f4)
      (try clear hS_lt)
      have hS_lt := hS.lt; (try simp only [World.size_alloc] at hS_lt)
      have hS_c0 := hS.cell 0; have hS_f0 := hS.frozen 0
      have hS_c1 := hS.cell 1; have hS_f1 := hS.frozen 1
      have hS_c2 := hS.cell 2; have hS_f2 := hS.frozen 2
      have hS_c3 := hS.cell 3; have hS_f3 := hS.frozen 3
      have hS_c4 := hS.cell 4; have hS_f4 := hS.frozen 4
      simp only [List.getElem?_toArray, List.getElem?_cons_zero, List.getElem?_cons_succ] at hS_c0 hS_c1 hS_c2 hS_c3 hS_c4
      clear hb2
      have hA := Bk.new w2 31 #[.int .i64 0, .int .i64 0, .int .i64 0, .int .i64 0, .int .i64 0]
      go_wp2_with fail
      refine (sput_no a b c d e' wd t cm _ hok).mono ?_
      rintro x w3 ⟨rfl, hb3⟩
      have hB3 : Below w.heap.size w w3 := (by repeat (first | exact Below.refl _ _ | assumption | refine Below.setCell ?_ (by first | omega | (simp; done) | (simp; omega)) _ | refine Below.alloc ?_ (by first | omega | (simp; done) | (simp; omega)) _ | refine Below.drew ?_ | refine Below.drewN' ?_ _ | refine Below.trans ?_ (Below.mono (by assumption) (by first | omega | (simp; done) | (simp; omega)))))
      replace hS := hS.alloc (.cells #[.int .i64 0, .int .i64 0, .int .i64 0, .int .i64 0, .int .i64 0] 31)
      replace hS := hS.below hb3 (by first | omega | (simp; done) | (simp; omega))
      (try clear hS_c0); (try clear hS_f0)
      (try clear hS_c1); (try clear hS_f1)
      (try clear hS_c2); (try clear hS_f2)
      (try clear hS_c3); (try clear hS_f3)
      (try clear hS_c4); (try clear hS_f4)
      (try clear hS_lt)
      have hS_lt := hS.lt; (try simp only [World.size_alloc] at hS_lt)
      have hS_c0 := hS.cell 0; have hS_f0 := hS.frozen 0
      have hS_c1 := hS.cell 1; have hS_f1 := hS.frozen 1
      have hS_c2 := hS.cell 2; have hS_f2 := hS.frozen 2
      have hS_c3 := hS.cell 3; have hS_f3 := hS.frozen 3
      have hS_c4 := hS.cell 4; have hS_f4 := hS.frozen 4
      simp only [List.getElem?_toArray, List.getElem?_cons_zero, List.getElem?_cons_succ] at hS_c0 hS_c1 hS_c2 hS_c3 hS_c4
      replace hA := hA.below hb3 (by first | omega | (simp; done) | (simp; omega))
      (try clear hA_c0); (try clear hA_f0)
      (try clear hA_c1); (try clear hA_f1)
      (try clear hA_c2); (try clear hA_f2)
      (try clear hA_c3); (try clear hA_f3)
      (try clear hA_c4); (try clear hA_f4)
      (try clear hA_lt)
      have hA_lt := hA.lt; (try simp only [World.size_alloc] at hA_lt)
      have hA_c0 := hA.cell 0; have hA_f0 := hA.frozen 0
      have hA_c1 := hA.cell 1; have hA_f1 := hA.frozen 1
      have hA_c2 := hA.cell 2; have hA_f2 := hA.frozen 2
      have hA_c3 := hA.cell 3; have hA_f3 := hA.frozen 3
      have hA_c4 := hA.cell 4; have hA_f4 := hA.frozen 4
      simp only [List.getElem?_toArray, List.getElem?_cons_zero, List.getElem?_cons_succ] at hA_c0 hA_c1 hA_c2 hA_c3 hA_c4
      go_wp2
      go_ret
      exact ⟨rfl, (by repeat (first | exact Below.refl _ _ | assumption | refine Below.setCell ?_ (by first | omega | (simp; done) | (simp; omega)) _ | refine Below.alloc ?_ (by first | omega | (simp; done) | (simp; omega)) _ | refine Below.drew ?_ | refine Below.drewN' ?_ _ | refine Below.trans ?_ (Below.mono (by assumption) (by first | omega | (simp; done) | (simp; omega)))))⟩

/-! ### THE ROW's STEP: WRITTEN OUT: LEAVE IT -/
set_option maxRecDepth 100000 in
theorem lifted (os : Os) (started : os.Started) (H : Type) (enc : TypeId × Value → H) :
    ReturnsInHanded {} Try.checked os 13 .any (Rows.fnStatsPutLostSpec.pre6 enc Try.prog Try.f13 Rows.fnStatsPutLostRow.domain false) (Rows.fnStatsPutLostSpec.post enc Try.prog Try.f13 false true false false) := by
  refine returnsInHanded_of_change (C := Try.checked) own started (by kernel_rfl) Try.func13
    (ChangeSpec.witness6 (enc := enc) (C := Try.checked) false ⟨#[], #[.slice none 0 0], []⟩ 8 (by kernel_rfl) (by kernel_rfl) (by kernel_rfl) (by kernel_rfl)) ?_
  intro W base args ds gs before hval0 hW hcnd _
  have hval : ∀ (j : Nat) t v, Try.f13.params[j]? = some t → args[j]? = some v → Value.okWide Try.prog W .any base t v := hval0
  have hW' := hW
  obtain ⟨p, q, hA0, hV, rfl, hfz, hnd⟩ := hW
  have hA : DataW.TrodAll enc Try.prog W 0 (fun _ => true) true Try.f13.params.toList args.toList ds p := hA0
  rw [Try.params13] at hA hval
  obtain ⟨v0, vs0, d0, ds0, p0, q0, hargs, rfl, rfl, h0, r0⟩ := trodAll_cons hA
  obtain ⟨rfl, rfl, rfl⟩ := trodAll_nil r0
  obtain rfl : args = #[v0] := by cases args; simp_all
  obtain ⟨rfl, rfl⟩ := trodVars_none hV
  obtain ⟨a0, len0, cap0, rfl⟩ := okWide_slice Try.underlying22 (hval 0 22 v0 rfl rfl)
  have k0 := h0
  have lt0 : ∀ x ∈ p0, x.block < W.heap.size := by obtain ⟨m, hm⟩ := k0; exact DataW.trod_lt m _ _ _ hm
  obtain ⟨z0, w0⟩ : ∃ zs, IsRow .u8 W a0 len0 cap0 zs := by
    obtain ⟨fuel, hf⟩ := h0
    rcases open_ints Try.underlying22 Try.underlying5 (by kernel_rfl) hf with ⟨hcs, _⟩ | ⟨x, l, c, zs, hcs, _, hl, hm, hz, _, hcell, hwz⟩
    · simp [Value.cells] at hcs
      obtain ⟨rfl, rfl, rfl⟩ := hcs
      exact ⟨[], .inl ⟨rfl, rfl, rfl, rfl⟩⟩
    · simp [Value.cells] at hcs
      obtain ⟨rfl, rfl, rfl⟩ := hcs
      exact ⟨zs, .inr ⟨_, rfl, hl, hm, by simpa using hz, hcell, hwz⟩⟩
  clear hA0 hval0
  refine (walk a0 len0 cap0 z0 W w0).mono fun e W' ⟨he, bel⟩ => ?_
  subst he
  exact ⟨_, rfl, _, _, _, [], _, [], hW', trodAll_mk1 (shut_bool Try.underlying4 _), (trodAll_cons_mk (Below.trod laidOut (by kernel_rfl) (of_decide_eq_true (by kernel_rfl)) k0 bel lt0) trodAll_mk0), rfl, bel.frame _, fun h => by cases h⟩

theorem over : Rows.fnStatsPutLostRow.holds Try.pinned (OpenSpec.ofChange Rows.fnStatsPutLostSpec) :=
  OpenClaim.holds_of_wide 13 Try.f13 rfl rfl rfl rfl rfl rfl rfl ⟨rfl, rfl, rfl, rfl, rfl⟩ rfl rfl rfl rfl rfl (by kernel_rfl) Try.func13 (by kernel_rfl)
    (of_decide_eq_true (by kernel_rfl)) (by unfold Func.isWrapper; first | (rw [if_pos (by decide +kernel)]; kernel_rfl) | (rw [if_neg (by decide +kernel)]; exact ⟨rfl, rfl⟩))
    (fun os started H enc _ => lifted os started H enc)

/--  THE STATEMENT  -/
theorem proved : Rows.FnStatsPutLostSaid := over
#print axioms proved
end Go.Proofs.Ytambjhapnhmmmaa.fnStatsPutLost
