/-
  Scripts: the program's commands, and the command of a line's words (it panics where there is none).
  Conditions: the words' memory.
-/
import Derived.Test.YthbkmnladaneaaaGreatDoorScV
import Derived.Laws.EntriesVeiled
namespace Go.Proofs.YthbkmnladaneaaaGreatDoor
open Go.RowKit
set_option linter.unusedVariables false
set_option linter.unusedSimpArgs false
set_option maxRecDepth 100000

def cmdW : Nat → List UInt8
  | 0 => wKey
  | 1 => wPut
  | 2 => wRead
  | 3 => wNew
  | 4 => wRing
  | _ => wWide
def cmdN : Nat → Int
  | 0 => 2
  | 1 => 2
  | 2 => 0
  | 3 => 0
  | 4 => 0
  | _ => 2
def cmdF : Nat → FuncId
  | 0 => 57
  | 1 => 58
  | 2 => 59
  | 3 => 60
  | 4 => 61
  | _ => 62
def cmdV (k : Nat) : Value := .agg #[.string ⟨(cmdW k).toArray⟩, .int .i64 (cmdN k), .func (.func (cmdF k)) #[] #[]]
def cmds : Array Value := #[.string ⟨#[107, 101, 121]⟩, .int .i64 2, .func (.func 57) #[] #[], .string ⟨#[112, 117, 116]⟩, .int .i64 2, .func (.func 58) #[] #[], .string ⟨#[114, 101, 97, 100]⟩, .int .i64 0, .func (.func 59) #[] #[],
  .string ⟨#[110, 101, 119]⟩, .int .i64 0, .func (.func 60) #[] #[], .string ⟨#[114, 105, 110, 103]⟩, .int .i64 0, .func (.func 61) #[] #[], .string ⟨#[119, 105, 100, 101]⟩, .int .i64 2, .func (.func 62) #[] #[]]
theorem cmds_at (k : Nat) (h : k < 6) : cmds[k * 3]? = some (.string ⟨(cmdW k).toArray⟩) ∧ cmds[k * 3 + 1]? = some (.int .i64 (cmdN k)) ∧ cmds[k * 3 + 2]? = some (.func (.func (cmdF k)) #[] #[]) := by
  rcases (show k = 0 ∨ k = 1 ∨ k = 2 ∨ k = 3 ∨ k = 4 ∨ k = 5 by omega) with e | e | e | e | e | e <;> subst e <;> exact ⟨rfl, rfl, rfl⟩
set_option maxHeartbeats 1000000 in
theorem icmds_any (w : World) : Calls Tryz.prog 45 #[] w fun e w' => e = .returned (.slice (some ⟨w.heap.size, 0, none⟩) 6 6) ∧ w' = w.alloc (.cells cmds 63) := by
  go_enter Tryz.func45, Tryz.ntmps45
  go_wp2
  go_ret
  exact ⟨rfl, rfl⟩
def CmdRet (x : List UInt8) (n : Int) (w : World) (e : Ending) (w' : World) : Prop :=
  ((∃ k, k < 6 ∧ x = cmdW k ∧ n = cmdN k ∧ e = .returned (cmdV k)) ∨ ((∀ k, k < 6 → ¬ (x = cmdW k ∧ n = cmdN k)) ∧ e = .panicked [{ v := thrown wWhat, recovered := false }])) ∧ Below w.heap.size w w'
theorem cmdRet_hit {x : List UInt8} {w : World} (k : Nat) (hk : k < 6) (hx : cmdW k = x) (w' : World) (hb : Below w.heap.size w w') : CmdRet x (cmdN k) w (.returned (.agg #[.string ⟨x.toArray⟩, .int .i64 (cmdN k), .func (.func (cmdF k)) #[] #[]])) w' := by
  subst hx
  exact ⟨Or.inl ⟨k, hk, rfl, rfl, rfl⟩, hb⟩
set_option maxHeartbeats 4000000 in
theorem icmd_any (x : List UInt8) (n cw : Nat) (Aw : Option Addr) (xs : List Value) (w : World) (hw : Sl w w.heap.size 1 Aw n (sV x :: xs)) (hn : 1 ≤ n) (hn2 : n ≤ 1000) :
    Calls Tryz.prog 32 #[.slice Aw n cw] w (CmdRet x ((n : Int) - 1) w) := by
  obtain ⟨bw, ow, rfl, hbw, hcw⟩ := hw.2 (by omega)
  have cw0 := hcw 0 _ rfl
  simp only [Nat.add_zero] at cw0
  unfold sV at cw0
  clear hcw hw
  have HN := Lib.hid (fun (w' : World) (hb : Below w.heap.size w w') (h : ∀ k, k < 6 → ¬ (x = cmdW k ∧ ((n : Int) - 1) = cmdN k)) => (show CmdRet x ((n : Int) - 1) w (.panicked [{ v := thrown wWhat, recovered := false }]) w' from ⟨Or.inr ⟨h, rfl⟩, hb⟩))
  have HY := Lib.hid (fun (w' : World) (k : Nat) (hk : k < 6) (hx : cmdW k = x) (hnn : cmdN k = (n : Int) - 1) (hb : Below w.heap.size w w') => (show CmdRet x ((n : Int) - 1) w (.returned (.agg #[.string ⟨x.toArray⟩, .int .i64 ((n : Int) - 1), .func (.func (cmdF k)) #[] #[]])) w' by have := cmdRet_hit k hk hx w' hb; rwa [hnn] at this))
  generalize CmdRet x ((n : Int) - 1) w = R at *
  have hR := (Bk.new w 63 #[.string ⟨#[]⟩, .int .i64 0, .nilFunc]).alloc (.cells cmds 63)
  have hC := bk_new1 w (.cells #[.string ⟨#[]⟩, .int .i64 0, .nilFunc] 63) 63 cmds
  have hBa : Below w.heap.size w ((w.alloc (.cells #[.string ⟨#[]⟩, .int .i64 0, .nilFunc] 63)).alloc (.cells cmds 63)) := (by repeat (first | exact Below.refl _ _ | assumption | refine Below.setCell ?_ (by first | omega | (simp; done) | (simp; omega)) _ | refine Below.alloc ?_ (by first | omega | (simp; done) | (simp; omega)) _ | refine Below.drew ?_ | refine Below.drewN' ?_ _ | refine Below.trans ?_ (Below.mono (by assumption) (by first | omega | (simp; done) | (simp; omega)))))
  go_enter Tryz.func32, Tryz.ntmps32
  go_wp2_with (go_at_call 45; refine (icmds_any _).mono ?_; rintro e w1 ⟨rfl, rfl⟩)
  go_loopw [7] (fun i wr => ∃ k : Nat, k ≤ 6 ∧ i = .int .i64 k ∧ Hid (∀ j, j < k → ¬ (x = cmdW j ∧ ((n : Int) - 1) = cmdN j)) ∧ Hid (Bk wr w.heap.size 63 #[.string ⟨#[]⟩, .int .i64 0, .nilFunc]) ∧ Hid (Bk wr (w.heap.size + 1) 63 cmds) ∧ Hid (Below w.heap.size w wr)) (fun i _ => 6 - (intOf i).toNat)
  case atStart => exact ⟨0, by omega, rfl, Lib.hid (fun j h => absurd h (by omega)), Lib.hid hR, Lib.hid hC, Lib.hid hBa⟩
  case round =>
    obtain ⟨k, hk, rfl, hno, hRk, hCk, hBk⟩ := hrel
    clear hR hC hBa
    by_cases hlt : k < 6
    · obtain ⟨m0, m1, m2⟩ := cmds_at k hlt
      have hBs := hBk.out.size
      have c0 := hCk.out.cell (k * 3)
      have c1 := hCk.out.cell (k * 3 + 1)
      have c2 := hCk.out.cell (k * 3 + 2)
      rw [m0] at c0
      rw [m1] at c1
      rw [m2] at c2
      have HYK := Lib.hid (fun (w' : World) => HY.out w' k hlt)
      have hno2 := Lib.hid (fun (h : ¬ (cmdW k = x ∧ cmdN k = (n : Int) - 1)) => (show ∀ j, j < k + 1 → ¬ (x = cmdW j ∧ ((n : Int) - 1) = cmdN j) by
        intro j hj
        by_cases e : j = k
        · subst e; exact fun hh => h ⟨hh.1.symm, hh.2.symm⟩
        · exact hno.out j (by omega)))
      have hR1 := hRk.out.alloc (.cells #[.string ⟨(cmdW k).toArray⟩, .int .i64 (cmdN k), .func (.func (cmdF k)) #[] #[]] 63)
      have hC1 := Lib.hid (hCk.out.alloc (.cells #[.string ⟨(cmdW k).toArray⟩, .int .i64 (cmdN k), .func (.func (cmdF k)) #[] #[]] 63))
      have hX1 := Bk.new wr 63 #[.string ⟨(cmdW k).toArray⟩, .int .i64 (cmdN k), .func (.func (cmdF k)) #[] #[]]
      have hB1 := hBk.out.alloc hBs (.cells #[.string ⟨(cmdW k).toArray⟩, .int .i64 (cmdN k), .func (.func (cmdF k)) #[] #[]] 63)
      have hfn : (0 : Int) < (n : Int) := by omega
      clear m0 m1 m2 HY
      generalize hcwk : cmdW k = wk at *
      generalize hcnk : cmdN k = nk at *
      generalize cmdF k = fk at *
      have hcw1 := (hB1.cell (p := ⟨bw, ow, none⟩) hbw).trans cw0
      go_wp2_with fail
      generalize wr.alloc (.cells #[.string ⟨wk.toArray⟩, .int .i64 nk, .func (.func fk) #[] #[]] 63) = W at *
      have hxl : wr.heap.size < W.heap.size := hX1.lt
      clear c0 c1 c2 hcwk hcnk
      (try clear hX1_c0); (try clear hX1_f0)
      (try clear hX1_c1); (try clear hX1_f1)
      (try clear hX1_c2); (try clear hX1_f2)
      (try clear hX1_lt)
      have hX1_lt := hX1.lt; (try simp only [World.size_alloc] at hX1_lt)
      have hX1_c0 := hX1.cell 0; have hX1_f0 := hX1.frozen 0
      have hX1_c1 := hX1.cell 1; have hX1_f1 := hX1.frozen 1
      have hX1_c2 := hX1.cell 2; have hX1_f2 := hX1.frozen 2
      simp only [List.getElem?_toArray, List.getElem?_cons_zero, List.getElem?_cons_succ] at hX1_c0 hX1_c1 hX1_c2
      by_cases q1 : wk = x
      · have d1 : (wk == x) = true := by simpa using q1
        have hw1 : IntKind.i64.wrap ((n : Int) - 1) = (n : Int) - 1 := by rw [IntKind.wrap_i64]; omega
        by_cases q2 : nk = (n : Int) - 1
        · subst q1
          subst q2
          have HQ := Lib.hid (fun (w' : World) => HYK.out w' rfl rfl)
          have HX := Lib.hid hX1
          have HRR := Lib.hid hR1
          have HB1 := Lib.hid hB1
          go_quiet (fail)
          obtain ⟨W2, hW2⟩ : ∃ W2, W.drewN nq = W2 := ⟨_, rfl⟩
          have hX2 : Bk W2 wr.heap.size 63 #[.string ⟨wk.toArray⟩, .int .i64 ((n : Int) - 1), .func (.func fk) #[] #[]] := by rw [← hW2]; exact HX.out.drewN nq
          have hR2 : Bk W2 w.heap.size 63 #[.string ⟨#[]⟩, .int .i64 0, .nilFunc] := by rw [← hW2]; exact HRR.out.drewN nq
          have HB2 := Lib.hid (show Below w.heap.size w W2 by rw [← hW2]; exact Below.drewN' HB1.out nq)
          rw [hW2]
          (try clear hX2_c0); (try clear hX2_f0)
          (try clear hX2_c1); (try clear hX2_f1)
          (try clear hX2_c2); (try clear hX2_f2)
          (try clear hX2_lt)
          have hX2_lt := hX2.lt; (try simp only [World.size_alloc] at hX2_lt)
          have hX2_c0 := hX2.cell 0; have hX2_f0 := hX2.frozen 0
          have hX2_c1 := hX2.cell 1; have hX2_f1 := hX2.frozen 1
          have hX2_c2 := hX2.cell 2; have hX2_f2 := hX2.frozen 2
          simp only [List.getElem?_toArray, List.getElem?_cons_zero, List.getElem?_cons_succ] at hX2_c0 hX2_c1 hX2_c2
          (try clear hR2_c0); (try clear hR2_f0)
          (try clear hR2_c1); (try clear hR2_f1)
          (try clear hR2_c2); (try clear hR2_f2)
          (try clear hR2_lt)
          have hR2_lt := hR2.lt; (try simp only [World.size_alloc] at hR2_lt)
          have hR2_c0 := hR2.cell 0; have hR2_f0 := hR2.frozen 0
          have hR2_c1 := hR2.cell 1; have hR2_f1 := hR2.frozen 1
          have hR2_c2 := hR2.cell 2; have hR2_f2 := hR2.frozen 2
          simp only [List.getElem?_toArray, List.getElem?_cons_zero, List.getElem?_cons_succ] at hR2_c0 hR2_c1 hR2_c2
          go_wp2
          refine ⟨rfl, ?_⟩
          apply Exists.intro
          apply And.intro
          · simp [results, Tryz.results32, go_sem, hR2_c0, hR2_c1, hR2_c2, hR2_lt]; exact rfl
          · exact HQ.out _ (by repeat (first | with_reducible exact HB2.out | with_reducible refine Below.setCell ?_ ?_ _ | with_reducible exact Nat.le_refl _))
        · have d2 : (nk == (n : Int) - 1) = false := by simpa using q2
          have HNO := Lib.hid (hno2.out (fun hh => q2 hh.2))
          clear q2
          go_quiet (fail)
          go_wp2
          go_roundw
          case rel => exact ⟨k + 1, by omega, by go_num, HNO, Lib.hid (hR1.drewN _), Lib.hid (hC1.out.drewN _), Lib.hid (Below.drewN' hB1 _)⟩
          case measure => simp [intOf]; omega
      · have d1 : (wk == x) = false := by simpa using q1
        have HNO := Lib.hid (hno2.out (fun hh => q1 hh.1))
        clear q1
        go_quiet (fail)
        go_wp2
        go_roundw
        case rel => exact ⟨k + 1, by omega, by go_num, HNO, Lib.hid (hR1.drewN _), Lib.hid (hC1.out.drewN _), Lib.hid (Below.drewN' hB1 _)⟩
        case measure => simp [intOf]; omega
    · have hk6 : k = 6 := by omega
      subst hk6
      go_wp2
      exact ⟨rfl, HN.out _ hBk.out hno.out⟩
end Go.Proofs.YthbkmnladaneaaaGreatDoor
