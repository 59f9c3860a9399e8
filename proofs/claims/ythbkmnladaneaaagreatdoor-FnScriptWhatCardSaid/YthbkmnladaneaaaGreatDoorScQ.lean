/-
  Scripts: the words of a line, in the reference.
  Conditions: the line has at most 500 bytes.
-/
import Derived.Test.YthbkmnladaneaaaGreatDoorScE
namespace Go.Proofs.YthbkmnladaneaaaGreatDoor
open Go.RowKit
set_option linter.unusedVariables false
set_option linter.unusedSimpArgs false
set_option maxRecDepth 100000

/-- A string of the language. -/
def sV (l : List UInt8) : Value := .string ⟨l.toArray⟩
theorem sV_bytes (s : ByteArray) : sV s.data.toList = .string s := rfl
theorem sV_extr (s : ByteArray) (a b : Nat) : Value.string (s.extract a b) = sV ((s.data.toList.take b).drop a) := by
  rw [← extr_list]; rfl
theorem one_sV (xs : List (List UInt8)) : ∀ u ∈ xs.map sV, u.oneCell' = true := by
  intro u hu
  obtain ⟨x, -, rfl⟩ := List.mem_map.1 hu
  rfl
theorem str_info : (Tryz.prog.info? 9).map (fun i => (i.zero, i.size, i.bytes)) = some (some (.string ⟨#[]⟩), 1, 16) := by kernel_rfl
def CutRet (T : TypeId) (l : List UInt8) (w : World) (e : Ending) (w' : World) : Prop := ∃ v, e = .returned v ∧ w'.ownsRow w.heap.size T 1 v (splitL 32 l).length ((splitL 32 l).map sV) ∧ Below w.heap.size w w'

set_option maxHeartbeats 4000000 in
theorem scut_any (s : ByteArray) (w : World) (hs : s.size ≤ 500) :
    Calls Tryz.prog 35 #[.string s] w (CutRet 9 s.data.toList w) := by
  have hl := byte_len s
  obtain ⟨i0, hi0, hz0, hz1, hz2⟩ := info_parts str_info
  go_enter Tryz.func35, Tryz.ntmps35
  go_wp2
  go_loopw [3, 4, 5] (fun o f i wr => ∃ (k fr : Nat) (xs : List (List UInt8)), k ≤ s.size ∧ fr ≤ k ∧ i = .int .i64 k ∧ f = .int .i64 fr ∧ xs.length ≤ k ∧ Hid (splitL 32 s.data.toList = xs ++ splitL 32 (s.data.toList.drop fr)) ∧ Hid (∀ j, fr ≤ j → j < k → s.data.toList[j]? ≠ some 32) ∧ Hid (wr.ownsRow w.heap.size 9 1 o xs.length (xs.map sV)) ∧ Hid (Below w.heap.size w wr)) (fun _ _ i _ => s.size - (intOf i).toNat)
  case atStart => exact ⟨0, 0, [], by omega, by omega, rfl, rfl, by simp, Lib.hid rfl, Lib.hid (fun j h1 h2 => absurd h2 (by omega)), Lib.hid (own_empty _ _ _ _ (Nat.le_refl _)), Lib.hid (by repeat (first | exact Below.refl _ _ | assumption | refine Below.setCell ?_ (by first | omega | (simp; done) | (simp; omega)) _ | refine Below.alloc ?_ (by first | omega | (simp; done) | (simp; omega)) _ | refine Below.drew ?_ | refine Below.drewN' ?_ _ | refine Below.trans ?_ (Below.mono (by assumption) (by first | omega | (simp; done) | (simp; omega)))))⟩
  case round =>
    obtain ⟨k, fr, xs, hk, hfr, rfl, rfl, hxk, hsp, hno, how, hB⟩ := hrel
    have hBs := hB.out.size
    by_cases hlt : k < s.size
    · have hb := byte_at s k hlt
      by_cases hc : s[k] = 32
      · have e0 : ((s[k].toNat : Int) == 32) = true := by rw [hc]; rfl
        rw [hc] at hb
        have hsp2 := Lib.hid (show splitL 32 s.data.toList = (xs ++ [(s.data.toList.take k).drop fr]) ++ splitL 32 (s.data.toList.drop (k + 1)) by rw [hsp.out, splitL_at hb hfr hno.out, List.append_assoc]; rfl)
        have hexv := sV_extr s fr k
        have HNB := Lib.hid (show Sl (wr.alloc (.cells #[.string (s.extract fr k)] 9)) (wr.heap.size + 1) 1 (some ⟨wr.heap.size, 0, none⟩) 1 [sV ((s.data.toList.take k).drop fr)] from ⟨rfl, fun _ => ⟨wr.heap.size, 0, rfl, Nat.lt_succ_self _, fun j u hu => by rw [Nat.zero_add, (Bk.new wr _ _).cell j, hexv]; simpa using hu⟩⟩)
        clear hb hexv
        go_wp2_with (at_builtin; refine wpList_app _ rfl _ _ 39 rfl w.heap.size 9 i0 (.string ⟨#[]⟩) 1 16 Tryz.underlying39 hi0 hz0 hz1 hz2 rfl (by omega) _ xs.length _ rfl (how.out.alloc _) (wr.heap.size + 1) (some ⟨wr.heap.size, 0, none⟩) 1 1 _ rfl HNB.out (by intro u hu; simp at hu; subst hu; rfl) (by unfold maxLen; omega) (by omega) (by simp; omega) ?_; intro v2 w3 hown2 hgrow hat)
        go_roundw
        case rel => exact ⟨k + 1, k + 1, xs ++ [(s.data.toList.take k).drop fr], by omega, by omega, by go_num, by go_num, by simp; omega, hsp2, Lib.hid (fun j h1 h2 => absurd h2 (by omega)), Lib.hid (by rw [List.length_append, List.map_append]; exact hown2), Lib.hid (Below.grown_own (hB.out.alloc hBs _) hgrow (how.out.alloc _) (Nat.le_refl _) (by simp; omega))⟩
        case measure => simp [intOf]; omega
      · have e0 : ((s[k].toNat : Int) == 32) = false := by
          rw [beq_eq_false_iff_ne]; intro e; apply hc; apply UInt8.toNat_inj.1; exact Int.ofNat_inj.1 e
        have hno2 := Lib.hid (show ∀ j, fr ≤ j → j < k + 1 → s.data.toList[j]? ≠ some 32 by
          intro j h1 h2
          by_cases e : j = k
          · subst e; rw [hb]; intro e; exact hc (Option.some.inj e)
          · exact hno.out j h1 (by omega))
        clear hb hc
        go_wp2
        go_roundw
        case rel => exact ⟨k + 1, fr, xs, by omega, by omega, by go_num, rfl, by omega, hsp, hno2, how, hB⟩
        case measure => simp [intOf]; omega
    · have hk' : k = s.size := by omega
      subst hk'
      have hsp2 := Lib.hid (show splitL 32 s.data.toList = xs ++ [s.data.toList.drop fr] by rw [hsp.out, splitL_last (fun j h1 h2 => hno.out j h1 (by omega))])
      have hexv : Value.string (s.extract fr s.size) = sV (s.data.toList.drop fr) := by
        rw [sV_extr, List.take_of_length_le (by omega)]
      have HNB := Lib.hid (show Sl (wr.alloc (.cells #[.string (s.extract fr s.size)] 9)) (wr.heap.size + 1) 1 (some ⟨wr.heap.size, 0, none⟩) 1 [sV (s.data.toList.drop fr)] from ⟨rfl, fun _ => ⟨wr.heap.size, 0, rfl, Nat.lt_succ_self _, fun j u hu => by rw [Nat.zero_add, (Bk.new wr _ _).cell j, hexv]; simpa using hu⟩⟩)
      clear hexv
      go_wp2_with (at_builtin; refine wpList_app _ rfl _ _ 39 rfl w.heap.size 9 i0 (.string ⟨#[]⟩) 1 16 Tryz.underlying39 hi0 hz0 hz1 hz2 rfl (by omega) _ xs.length _ rfl (how.out.alloc _) (wr.heap.size + 1) (some ⟨wr.heap.size, 0, none⟩) 1 1 _ rfl HNB.out (by intro u hu; simp at hu; subst hu; rfl) (by unfold maxLen; omega) (by omega) (by simp; omega) ?_; intro v2 w3 hown2 hgrow hat)
      go_ret
      refine ⟨_, rfl, ?_, Below.grown_own (hB.out.alloc hBs _) hgrow (how.out.alloc _) (Nat.le_refl _) (by simp; omega)⟩
      rw [hsp2.out, List.length_append, List.map_append]
      exact hown2
end Go.Proofs.YthbkmnladaneaaaGreatDoor
