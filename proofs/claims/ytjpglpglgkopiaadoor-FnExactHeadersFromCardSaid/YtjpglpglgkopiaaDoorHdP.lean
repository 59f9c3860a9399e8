/-
  Headers: what is read and written, plain.
  Conditions: as each theorem states them.
-/
import Derived.Test.YtjpglpglgkopiaaDoorBasP
import Derived.Test.YtjpglpglgkopiaaDoorPkV
import Derived.Test.YtjpglpglgkopiaaDoorWideN
namespace Go.Proofs.YtjpglpglgkopiaaDoor
open Go.RowKit
set_option linter.unusedVariables false
set_option linter.unusedSimpArgs false

/-- The header of a packet. -/
def hB (p : Pk) : List Int := [p.wi % 65536 / 256, p.wi % 65536 % 256, p.ti / 65536, p.ti / 256 % 256, p.ti % 256, p.la + (if p.ky then 4 else 0) + (if p.en then 8 else 0), p.si / 256, p.si % 256]
theorem hB_len (p : Pk) : (hB p).length = 8 := rfl
def isB (z : Int) : Prop := 0 ≤ z ∧ z ≤ 255
/-- The packet of eight bytes with this wide number. -/
def hP (wi b2 b3 b4 b5 b6 b7 : Int) : Pk := ⟨wi, 65536 * b2 + 256 * b3 + b4, b5 % 4, 256 * b6 + b7, b5 / 4 % 2 == 1, b5 / 8 == 1⟩
/-- May these bytes be read? -/
def hOk (near b0 b1 b2 b3 b4 b5 b6 b7 : Int) : Prop := (isB b0 ∧ isB b1 ∧ isB b2 ∧ isB b3 ∧ isB b4 ∧ isB b5 ∧ isB b6 ∧ isB b7) ∧ b5 ≤ 15 ∧ WideOk near (256 * b0 + b1) ∧ pkOk (hP (wideNum near (256 * b0 + b1)) b2 b3 b4 b5 b6 b7)
open Classical in
/-- The packet of a header, near a wide number. -/
noncomputable def hd (near : Int) : List Int → Option Pk
  | [b0, b1, b2, b3, b4, b5, b6, b7] => if hOk near b0 b1 b2 b3 b4 b5 b6 b7 then some (hP (wideNum near (256 * b0 + b1)) b2 b3 b4 b5 b6 b7) else none
  | _ => none
theorem hd_ok {near b0 b1 b2 b3 b4 b5 b6 b7 : Int} (h : hOk near b0 b1 b2 b3 b4 b5 b6 b7) : hd near [b0, b1, b2, b3, b4, b5, b6, b7] = some (hP (wideNum near (256 * b0 + b1)) b2 b3 b4 b5 b6 b7) := if_pos h
theorem hd_no {near b0 b1 b2 b3 b4 b5 b6 b7 : Int} (h : ¬ hOk near b0 b1 b2 b3 b4 b5 b6 b7) : hd near [b0, b1, b2, b3, b4, b5, b6, b7] = none := if_neg h
theorem list8 {α : Type} {l : List α} (h : l.length = 8) : ∃ b0 b1 b2 b3 b4 b5 b6 b7, l = [b0, b1, b2, b3, b4, b5, b6, b7] := by
  match l, h with
  | [b0, b1, b2, b3, b4, b5, b6, b7], _ => exact ⟨_, _, _, _, _, _, _, _, rfl⟩
theorem hd_some {near : Int} {bs : List Int} {p : Pk} (h : hd near bs = some p) : ∃ b0 b1 b2 b3 b4 b5 b6 b7, bs = [b0, b1, b2, b3, b4, b5, b6, b7] ∧ hOk near b0 b1 b2 b3 b4 b5 b6 b7 ∧ p = hP (wideNum near (256 * b0 + b1)) b2 b3 b4 b5 b6 b7 := by
  by_cases hl : bs.length = 8
  · obtain ⟨b0, b1, b2, b3, b4, b5, b6, b7, rfl⟩ := list8 hl
    by_cases ho : hOk near b0 b1 b2 b3 b4 b5 b6 b7
    · rw [hd_ok ho] at h
      injection h with h
      exact ⟨b0, b1, b2, b3, b4, b5, b6, b7, rfl, ho, h.symm⟩
    · rw [hd_no ho] at h
      cases h
  · unfold hd at h
    split at h
    · exact absurd rfl hl
    · cases h
theorem hd_pk {near : Int} {bs : List Int} {p : Pk} (h : hd near bs = some p) : pkOk p := by
  obtain ⟨b0, b1, b2, b3, b4, b5, b6, b7, rfl, ho, rfl⟩ := hd_some h
  exact ho.2.2.2
/-- What is read was written. -/
theorem hd_back {near : Int} {bs : List Int} {p : Pk} (h : hd near bs = some p) : hB p = bs := by
  obtain ⟨b0, b1, b2, b3, b4, b5, b6, b7, rfl, ⟨⟨h0, h1, h2, h3, h4, h5, h6, h7⟩, h15, ⟨⟨w1, w2, w3, w4⟩, w5, w6⟩, hk⟩, rfl⟩ := hd_some h
  unfold isB at *
  have hw : wideNum near (256 * b0 + b1) % 65536 = 256 * b0 + b1 := by unfold wideNum at *; omega
  unfold hB hP
  simp only [hw]
  have hla : b5 % 4 + (if (b5 / 4 % 2 == 1) = true then 4 else 0) + (if (b5 / 8 == 1) = true then 8 else 0) = b5 := by
    split <;> split <;> simp_all <;> omega
  rw [hla]
  simp only [List.cons.injEq, and_true]
  refine ⟨by omega, by omega, by omega, by omega, by omega, trivial, by omega, by omega⟩
/-- What is written can be read, near enough. -/
theorem hd_hB {near : Int} {p : Pk} (hp : pkOk p) (hn0 : 0 ≤ near) (hn1 : near ≤ 999999) (hd0 : -30000 ≤ p.wi - near) (hd1 : p.wi - near ≤ 30000) : hd near (hB p) = some p := by
  obtain ⟨p1, p2, p3, p4, p5, p6, p7, p8⟩ := hp
  have hw : wideNum near (256 * (p.wi % 65536 / 256) + p.wi % 65536 % 256) = p.wi := by unfold wideNum; omega
  have hti : 65536 * (p.ti / 65536) + 256 * (p.ti / 256 % 256) + p.ti % 256 = p.ti := by omega
  have hsi : 256 * (p.si / 256) + p.si % 256 = p.si := by omega
  obtain ⟨wi, ti, la, si, ky, en⟩ := p
  simp only at *
  have hP' : hP (wideNum near (256 * (wi % 65536 / 256) + wi % 65536 % 256)) (ti / 65536) (ti / 256 % 256) (ti % 256) (la + (if ky then 4 else 0) + (if en then 8 else 0)) (si / 256) (si % 256) = ⟨wi, ti, la, si, ky, en⟩ := by
    rw [hw]
    unfold hP
    rw [hti, hsi]
    simp only [Pk.mk.injEq, true_and]
    cases ky <;> cases en <;> simp <;> omega
  have hok : hOk near (wi % 65536 / 256) (wi % 65536 % 256) (ti / 65536) (ti / 256 % 256) (ti % 256) (la + (if ky then 4 else 0) + (if en then 8 else 0)) (si / 256) (si % 256) := by
    refine ⟨?_, ?_, ?_, ?_⟩
    · unfold isB
      refine ⟨by omega, by omega, by omega, by omega, by omega, ?_, by omega, by omega⟩
      cases ky <;> cases en <;> simp <;> omega
    · cases ky <;> cases en <;> simp <;> omega
    · refine ⟨⟨hn0, hn1, by omega, by omega⟩, ?_, ?_⟩ <;> rw [hw] <;> omega
    · rw [hP']
      exact ⟨p1, p2, p3, p4, p5, p6, p7, p8⟩
  unfold hB
  rw [hd_ok hok, hP']

/-- The packets of headers one behind the other, each near the one before. -/
noncomputable def hs : Nat → Int → List Int → Option (List Pk)
  | 0, _, bs => if bs = [] then some [] else none
  | k + 1, near, bs => match hd near (bs.take 8) with
    | none => none
    | some p => match hs k p.wi (bs.drop 8) with
      | none => none
      | some ps => some (p :: ps)
theorem hs_len : ∀ {k : Nat} {near : Int} {bs : List Int} {ps : List Pk}, hs k near bs = some ps → ps.length = k
  | 0, near, bs, ps, h => by
    unfold hs at h
    split at h
    · injection h with h; subst h; rfl
    · cases h
  | k + 1, near, bs, ps, h => by
    unfold hs at h
    split at h
    · cases h
    · split at h
      · cases h
      · rename_i p _ _ ps' h2
        injection h with h
        subst h
        simp [hs_len h2]
/-- What is read was written. -/
theorem hs_back : ∀ {k : Nat} {near : Int} {bs : List Int} {ps : List Pk}, hs k near bs = some ps → ps.flatMap hB = bs
  | 0, near, bs, ps, h => by
    unfold hs at h
    split at h
    · rename_i e; injection h with h; subst h e; rfl
    · cases h
  | k + 1, near, bs, ps, h => by
    unfold hs at h
    split at h
    · cases h
    · rename_i p h1
      split at h
      · cases h
      · rename_i ps' h2
        injection h with h
        subst h
        rw [List.flatMap_cons, hd_back h1, hs_back h2, List.take_append_drop]
/-- The first headers are read first. -/
theorem hs_take : ∀ {k : Nat} {near : Int} {bs : List Int} {ps : List Pk}, hs (k + 1) near bs = some ps → hs k near (bs.take (8 * k)) = some (ps.take k)
  | 0, near, bs, ps, h => by
    unfold hs
    simp
  | k + 1, near, bs, ps, h => by
    have hb := hs_back h
    have hlen := hs_len h
    unfold hs at h
    split at h
    · cases h
    · rename_i p h1
      split at h
      · cases h
      · rename_i ps' h2
        injection h with h
        subst h
        have h3 := hs_take h2
        unfold hs
        have e1 : (bs.take (8 * (k + 1))).take 8 = bs.take 8 := by rw [List.take_take]; congr 1; (try omega)
        have e2 : (bs.take (8 * (k + 1))).drop 8 = (bs.drop 8).take (8 * k) := by rw [List.drop_take]; congr 1
        rw [e1, h1]
        simp only [e2, h3, List.take_succ_cons]
/-- Packets near each other are read. -/
theorem hs_hB : ∀ {ps : List Pk} {near : Int}, (∀ p ∈ ps, pkOk p) → 0 ≤ near → near ≤ 999999 → (∀ p, ps[0]? = some p → -30000 ≤ p.wi - near ∧ p.wi - near ≤ 30000) →
    (∀ i x y, ps[i]? = some x → ps[i + 1]? = some y → -30000 ≤ y.wi - x.wi ∧ y.wi - x.wi ≤ 30000) → hs ps.length near (ps.flatMap hB) = some ps
  | [], near, _, _, _, _, _ => by simp [hs]
  | p :: ps, near, h1, h2, h3, h4, h5 => by
    have hp := h1 p (by simp)
    have hn := h4 p rfl
    have ih := hs_hB (ps := ps) (near := p.wi) (fun q hq => h1 q (by simp [hq])) hp.1 hp.2.1 (fun q hq => h5 0 p q rfl (by simpa using hq)) (fun i x y hx hy => h5 (i + 1) x y (by simpa using hx) (by simpa using hy))
    show hs (ps.length + 1) near ((p :: ps).flatMap hB) = some (p :: ps)
    unfold hs
    rw [List.flatMap_cons, show (hB p ++ ps.flatMap hB).take 8 = hB p from List.take_left' (hB_len p), show (hB p ++ ps.flatMap hB).drop 8 = ps.flatMap hB from List.drop_left' (hB_len p), hd_hB hp h2 h3 hn.1 hn.2]
    simp only [ih]
end Go.Proofs.YtjpglpglgkopiaaDoor
