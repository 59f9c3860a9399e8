/-
  Scripts: the reference's decimals.
  Conditions: the number is at least 0 and below 10^7.
-/
import Derived.Test.YthbkmnladaneaaaGreatDoorScP
import Derived.Test.YthbkmnladaneaaaGreatDoorInv
import Derived.Laws.IdiomStrings
namespace Go.Proofs.YthbkmnladaneaaaGreatDoor
open Go.RowKit
set_option linter.unusedVariables false
set_option linter.unusedSimpArgs false
set_option maxRecDepth 100000

/-- What the slots hold of the region that goes on with the digits ahead. -/
def IDc (n : Int) (l : List UInt8) (c : UInt8) : Nat → Value → World → Prop
  | 0, v, _ => v = .int .i64 n
  | 1, v, _ => v = .int .i64 (n / 10)
  | 2, v, _ => v = .string ⟨l.toArray⟩
  | 3, v, _ => v = .int .i64 n
  | 4, v, _ => v = .int .i64 (n % 10)
  | 5, v, _ => v = .int .i64 (48 + n % 10)
  | 6, v, _ => v = .int .u8 (c.toNat : Int)
  | 7, v, w => ∃ b, v = .slice (some ⟨b, 0, none⟩) 1 1 ∧ Bk w b 5 #[.int .u8 (c.toNat : Int)]
  | 8, v, _ => v = .string ⟨#[c]⟩
  | 9, v, _ => v = .string ⟨(l ++ [c]).toArray⟩
  | 10, v, _ => v = .string ⟨(l ++ [c]).toArray⟩
  | _, _, _ => True
theorem IDc.mono {n : Int} {l : List UInt8} {c : UInt8} (j : Nat) (v : Value) (w w' : World) (hb : Below w.heap.size w w') (h : IDc n l c j v w) : IDc n l c j v w' := by
  unfold IDc at *
  split at h <;> first | exact h | (obtain ⟨b, h1, h2⟩ := h; exact ⟨b, h1, h2.below hb h2.lt⟩)
theorem cvt_back (w : World) (b : Nat) (c : UInt8) (h : Bk w b 5 #[.int .u8 (c.toNat : Int)]) :
    (convert 22 9 (.slice (some ⟨b, 0, none⟩) 1 1)).run Tryz.prog w = .ok (.string ⟨#[c]⟩) w :=
  run_convert_bytes_back (P := Tryz.prog) w _ _ _ ⟨b, 0, none⟩ 1 [c] Tryz.underlying22 Tryz.underlying5 Tryz.underlying9 fun j hj => by
    have : j = 0 := by simpa using hj
    subst this
    exact h.cell 0
theorem dig_nat (n : Int) (h0 : 0 ≤ n) : ((UInt8.ofNat (48 + (n % 10).toNat)).toNat : Int) = 48 + n % 10 := by
  rw [UInt8.toNat_ofNat']; omega
theorem str_app (a b : List UInt8) : (⟨a.toArray⟩ : ByteArray) ++ ⟨b.toArray⟩ = ⟨(a ++ b).toArray⟩ := by
  apply ByteArray.ext
  simp
theorem decF_small {f u : Nat} (h : u < 10) : decF (f + 1) u = [UInt8.ofNat (48 + u)] := by unfold decF; rw [if_pos h]
theorem decF_big {f u : Nat} (h : ¬ u < 10) : decF (f + 1) u = decF f (u / 10) ++ [UInt8.ofNat (48 + u % 10)] := by conv => lhs; unfold decF; rw [if_neg h]

def DecRet (l : List UInt8) (w : World) (e : Ending) (w' : World) : Prop := e = .returned (.string ⟨l.toArray⟩) ∧ Below w.heap.size w w'

set_option maxHeartbeats 1000000 in
theorem sdecF : ∀ (f : Nat) (n : Int) (w : World), 0 ≤ n → n < 10 ^ f → f ≤ 7 → 0 < f → Calls Tryz.prog 27 #[.int .i64 n] w (DecRet (decF f n.toNat) w)
  | 0, n, w, _, _, _, h => absurd h (by omega)
  | f + 1, n, w, h0, h1, h7, _ => by
    have h10 : n < 10000000 := by
      have : (10 : Int) ^ (f + 1) ≤ 10 ^ 7 := by
        rcases (show f = 0 ∨ f = 1 ∨ f = 2 ∨ f = 3 ∨ f = 4 ∨ f = 5 ∨ f = 6 by omega) with e | e | e | e | e | e | e <;> rw [e] <;> decide
      have h7' : (10 : Int) ^ 7 = 10000000 := by decide
      omega
    by_cases hn : n < 10
    · have hl := decF_small (f := f) (u := n.toNat) (by omega)
      have hd := dig_nat n h0
      have hc : n % 10 = n := by omega
      rw [hc] at hd
      generalize UInt8.ofNat (48 + n.toNat) = c at *
      go_enter Tryz.func27, Tryz.ntmps27
      have hw : IntKind.u8.wrap (48 + n) = (c.toNat : Int) := by rw [hd, IntKind.wrap_u8]; omega
      have hcv := cvt_back (w.alloc (.cells #[.int .u8 (c.toNat : Int)] 5)) w.heap.size c (Bk.new _ _ _)
      rw [hd] at hcv
      go_wp2
      go_ret
      rw [hl]
      exact ⟨rfl, (Below.refl _ _).alloc (Nat.le_refl _) _⟩
    · have hf : 0 < f := by
        rcases Nat.eq_zero_or_pos f with e | e
        · subst e; simp at h1; omega
        · exact e
      have hl := decF_big (f := f) (u := n.toNat) (by omega)
      have hd := dig_nat n h0
      have e1 : n.toNat / 10 = (n / 10).toNat := by omega
      have e2 : n.toNat % 10 = (n % 10).toNat := by omega
      rw [e1, e2] at hl
      have hp : n / 10 < 10 ^ f := by rw [Int.pow_succ] at h1; omega
      have ih := fun w' => sdecF f (n / 10) w' (by omega) hp (by omega) hf
      clear hp h1 e1 e2 hf
      generalize UInt8.ofNat (48 + (n % 10).toNat) = c at *
      have hln := decF_len f (n / 10).toNat
      generalize decF f (n / 10).toNat = l at *
      have m1 : Int.tdiv n 10 = n / 10 := Int.tdiv_eq_ediv_of_nonneg h0
      have m2 : Int.tmod n 10 = n % 10 := Int.tmod_eq_emod_of_nonneg h0
      have m3 : 0 ≤ n % 10 := by omega
      have m4 : n % 10 < 10 := by omega
      have m5 : 0 ≤ n / 10 := by omega
      have m6 : n / 10 < 1000000 := by omega
      have hw : IntKind.u8.wrap (48 + n % 10) = (c.toNat : Int) := by rw [hd, IntKind.wrap_u8]; omega
      have hw1 : IntKind.i64.wrap (n / 10) = n / 10 := by rw [IntKind.wrap_i64]; omega
      have hw2 : IntKind.i64.wrap (48 + n % 10) = 48 + n % 10 := by rw [IntKind.wrap_i64]; omega
      have hll : ¬ 9223372036854775807 < l.length + 1 := by omega
      have hap : (⟨l.toArray⟩ ++ ⟨#[c]⟩ : ByteArray) = ⟨(l ++ [c]).toArray⟩ := str_app l [c]
      rw [hl]
      have HD := Lib.hid hd
      clear hl hd
      go_enter Tryz.func27, Tryz.ntmps27
      go_wp2_with fail
      refine wp_region_inv (fun n w' => Below w.heap.size w w') (fun w w' => Below w.heap.size w w') (IDc n l c) (by kernel_rfl) (by kernel_rfl) (by kernel_rfl) ((Below.refl _ _).drew) IDc.mono ⟨?_, ?_, ?_, ?_, ?_, ?_, ?_, ?_, ?_, ?_, ?_, trivial⟩ ?_
      · intro m y wv hm hb hd
        have HB := Lib.hid hb
        clear hd hb
        refine ⟨?_⟩
        simp only [fill, Act.put, List.setIfInBounds_toArray, List.set_cons_zero, List.set_cons_succ]
        go_simp
        exact ⟨Below.refl _ _, HB.out, rfl⟩
      · intro m y wv hm hb hd
        have d0 := hd { on := 0, ground := .data } (by simp) (by kernel_rfl)
        replace d0 : y 0 = .int .i64 n := d0
        have HB := Lib.hid hb
        clear hd hb
        refine ⟨?_⟩
        simp only [fill, Act.put, List.setIfInBounds_toArray, List.set_cons_zero, List.set_cons_succ]
        go_simp
        exact ⟨Below.refl _ _, HB.out, rfl⟩
      · intro m y wv hm hb hd
        have d0 := hd { on := 1, ground := .data } (by simp) (by kernel_rfl)
        replace d0 : y 1 = .int .i64 (n / 10) := d0
        have HB := Lib.hid hb
        clear hd hb
        refine ⟨?_⟩
        simp only [fill, Act.put, List.setIfInBounds_toArray, List.set_cons_zero, List.set_cons_succ]
        go_simp
        refine (ih _).mono ?_
        rintro e w2 ⟨rfl, hb2⟩
        exact ⟨hb2, HB.out.trans (hb2.mono HB.out.size), rfl⟩
      · intro m y wv hm hb hd
        have HB := Lib.hid hb
        clear hd hb
        refine ⟨?_⟩
        simp only [fill, Act.put, List.setIfInBounds_toArray, List.set_cons_zero, List.set_cons_succ]
        go_simp
        exact ⟨Below.refl _ _, HB.out, rfl⟩
      · intro m y wv hm hb hd
        have d0 := hd { on := 3, ground := .data } (by simp) (by kernel_rfl)
        replace d0 : y 3 = .int .i64 n := d0
        have HB := Lib.hid hb
        clear hd hb
        refine ⟨?_⟩
        simp only [fill, Act.put, List.setIfInBounds_toArray, List.set_cons_zero, List.set_cons_succ]
        go_simp
        exact ⟨Below.refl _ _, HB.out, rfl⟩
      · intro m y wv hm hb hd
        have d0 := hd { on := 4, ground := .data } (by simp) (by kernel_rfl)
        replace d0 : y 4 = .int .i64 (n % 10) := d0
        have HB := Lib.hid hb
        clear hd hb
        refine ⟨?_⟩
        simp only [fill, Act.put, List.setIfInBounds_toArray, List.set_cons_zero, List.set_cons_succ]
        go_simp
        exact ⟨Below.refl _ _, HB.out, rfl⟩
      · intro m y wv hm hb hd
        have d0 := hd { on := 5, ground := .data } (by simp) (by kernel_rfl)
        replace d0 : y 5 = .int .i64 (48 + n % 10) := d0
        have HB := Lib.hid hb
        clear hd hb
        refine ⟨?_⟩
        simp only [fill, Act.put, List.setIfInBounds_toArray, List.set_cons_zero, List.set_cons_succ]
        go_simp
        exact ⟨Below.refl _ _, HB.out, rfl⟩
      · intro m y wv hm hb hd
        have d0 := hd { on := 6, ground := .data } (by simp) (by kernel_rfl)
        replace d0 : y 6 = .int .u8 (c.toNat : Int) := d0
        have HB := Lib.hid hb
        clear hd hb
        refine ⟨?_⟩
        simp only [fill, Act.put, List.setIfInBounds_toArray, List.set_cons_zero, List.set_cons_succ]
        go_simp
        exact ⟨(Below.refl _ _).alloc (Nat.le_refl _) _, HB.out.alloc (HB.out.size) _, _, rfl, Bk.new _ _ _⟩
      · intro m y wv hm hb hd
        have d0 := hd { on := 7, ground := .data } (by simp) (by kernel_rfl)
        obtain ⟨b, hy, hbk⟩ := d0
        have hcv := cvt_back wv b c hbk
        have HB := Lib.hid hb
        clear hd hb hbk
        refine ⟨?_⟩
        simp only [fill, Act.put, List.setIfInBounds_toArray, List.set_cons_zero, List.set_cons_succ]
        go_simp
        exact ⟨Below.refl _ _, HB.out, rfl⟩
      · intro m y wv hm hb hd
        have d0 := hd { on := 2, ground := .data } (by simp) (by kernel_rfl)
        have d1 := hd { on := 8, ground := .data } (by simp) (by kernel_rfl)
        replace d0 : y 2 = .string ⟨l.toArray⟩ := d0
        replace d1 : y 8 = .string ⟨#[c]⟩ := d1
        have HB := Lib.hid hb
        clear hd hb
        refine ⟨?_⟩
        simp only [fill, Act.put, List.setIfInBounds_toArray, List.set_cons_zero, List.set_cons_succ]
        go_simp
        exact ⟨Below.refl _ _, HB.out, rfl⟩
      · intro m y wv hm hb hd
        have d0 := hd { on := 9, ground := .data } (by simp) (by kernel_rfl)
        replace d0 : y 9 = .string ⟨(l ++ [c]).toArray⟩ := d0
        have HB := Lib.hid hb
        clear hd hb
        refine ⟨?_⟩
        simp only [fill, Act.put, List.setIfInBounds_toArray, List.set_cons_zero, List.set_cons_succ]
        go_simp
        exact ⟨Below.refl _ _, HB.out, rfl⟩
      · intro y w3 hb3 hI
        have hx := hI 10 (by decide)
        replace hx : y 10 = .string ⟨(l ++ [c]).toArray⟩ := hx
        refine ⟨?_⟩
        simp only [fill, Act.put, List.setIfInBounds_toArray, List.set_cons_zero, List.set_cons_succ]
        go_wp2
        go_ret
        rw [hx]
        exact ⟨rfl, hb3⟩
theorem sdec_any (n : Int) (w : World) (h0 : 0 ≤ n) (h1 : n < 10000000) : Calls Tryz.prog 27 #[.int .i64 n] w (DecRet (dI n) w) :=
  sdecF 7 n w h0 (by have h7' : (10 : Int) ^ 7 = 10000000 := by decide
                     omega) (Nat.le_refl _) (by omega)
theorem itoa_dI {n : Int} (h0 : 0 ≤ n) (h1 : n < 10000000) : Lib.itoa n = dI n := by
  unfold Lib.itoa dI
  rw [if_neg (by omega), decL_dig (by omega)]
theorem dI_len (n : Int) : (dI n).length ≤ 7 := decL_len _
end Go.Proofs.YthbkmnladaneaaaGreatDoor
