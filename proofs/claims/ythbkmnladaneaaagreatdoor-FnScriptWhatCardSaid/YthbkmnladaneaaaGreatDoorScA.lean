/-
  Scripts: what a command does, by its number; what a line is, by its command; strings.Split at one byte.
  Conditions: as each theorem states them.
-/
import Derived.Test.YthbkmnladaneaaaGreatDoorScR
namespace Go.Proofs.YthbkmnladaneaaaGreatDoor
open Go.RowKit
set_option linter.unusedVariables false
set_option linter.unusedSimpArgs false
set_option maxRecDepth 100000

def runC (k : Nat) (s : Sc) (zs : List Int) : Sc × List UInt8 :=
  match k with
  | 0 => putS s true (zs.getD 0 0) (zs.getD 1 0)
  | 1 => putS s false (zs.getD 0 0) (zs.getD 1 0)
  | 2 => readS s
  | 3 => (newS s, wOk)
  | 4 => (s, wRingB ++ dI (oldI s) ++ [32] ++ dI s.co)
  | _ => (s, wideA (zs.getD 0 0) (zs.getD 1 0))
theorem run_any (k : Nat) (hk : k < 6) (s : Sc) (g : Nat) (An : Option Addr) (n cn : Nat) (zs : List Int) (w : World) (h : MQ s g w) (ht : TB w) (hok : scOk s) (hn : Ints w w.heap.size An n zs) (hlen : (n : Int) = cmdN k) :
    Calls Tryz.prog (cmdF k) #[.pointer (some ⟨g, 0, none⟩), .slice An n cn] w (MRet (runC k s zs) g w) := by
  have hl := hn.len
  rcases (show k = 0 ∨ k = 1 ∨ k = 2 ∨ k = 3 ∨ k = 4 ∨ k = 5 by omega) with e | e | e | e | e | e <;> subst e
  · have h2 : n = 2 := by simp [cmdN] at hlen; omega
    subst h2
    obtain ⟨a, b, rfl⟩ : ∃ a b, zs = [a, b] := by
      match zs, hl with
      | [a, b], _ => exact ⟨a, b, rfl⟩
    exact mkey_any s a b g An cn w h hok hn
  · have h2 : n = 2 := by simp [cmdN] at hlen; omega
    subst h2
    obtain ⟨a, b, rfl⟩ : ∃ a b, zs = [a, b] := by
      match zs, hl with
      | [a, b], _ => exact ⟨a, b, rfl⟩
    exact mput_any s a b g An cn w h hok hn
  · exact mread_any s g _ w h ht hok
  · exact mrestart_any s g _ w h hok
  · exact mtell_any s g _ w h ht hok
  · have h2 : n = 2 := by simp [cmdN] at hlen; omega
    subst h2
    obtain ⟨a, b, rfl⟩ : ∃ a b, zs = [a, b] := by
      match zs, hl with
      | [a, b], _ => exact ⟨a, b, rfl⟩
    exact mwide_any s a b g An cn w h ht hn
theorem two_of {α : Type} {ys : List α} (h : (ys.length : Int) = 2) : ∃ a b, ys = [a, b] := by
  have : ys.length = 2 := by omega
  match ys, this with
  | [a, b], _ => exact ⟨a, b, rfl⟩
theorem none_of {α : Type} {ys : List α} (h : (ys.length : Int) = 0) : ys = [] := List.length_eq_zero_iff.1 (by omega)
theorem lineS_run {s : Sc} {l x : List UInt8} {ys : List (List UInt8)} {k : Nat} (hsp : splitL 32 l = x :: ys) (hk : k < 6) (hx : x = cmdW k) (hn : (ys.length : Int) = cmdN k) (hb : ∀ y, y ∈ ys → numB y = true) : lineS s l = runC k s (ys.map valL) := by
  rcases (show k = 0 ∨ k = 1 ∨ k = 2 ∨ k = 3 ∨ k = 4 ∨ k = 5 by omega) with e | e | e | e | e | e <;> subst e
  · replace hx : x = wKey := hx
    obtain ⟨a, b, rfl⟩ := two_of hn
    rw [lineS_3 hsp, if_pos (Or.inl hx), decide_eq_true hx]
    unfold putW
    rw [if_pos ⟨hb a (by simp), hb b (by simp)⟩]
    rfl
  · replace hx : x = wPut := hx
    obtain ⟨a, b, rfl⟩ := two_of hn
    rw [lineS_3 hsp, if_pos (Or.inr hx), decide_eq_false (by rw [hx]; decide)]
    unfold putW
    rw [if_pos ⟨hb a (by simp), hb b (by simp)⟩]
    rfl
  · replace hx : x = wRead := hx
    have := none_of hn
    subst this
    rw [lineS_1 hsp, if_pos hx]
    rfl
  · replace hx : x = wNew := hx
    have := none_of hn
    subst this
    rw [lineS_1 hsp, if_neg (by rw [hx]; decide), if_pos hx]
    rfl
  · replace hx : x = wRing := hx
    have := none_of hn
    subst this
    rw [lineS_1 hsp, if_neg (by rw [hx]; decide), if_neg (by rw [hx]; decide), if_pos hx]
    rfl
  · replace hx : x = wWide := hx
    obtain ⟨a, b, rfl⟩ := two_of hn
    rw [lineS_3 hsp, if_neg (by rw [hx]; decide), if_pos hx]
    unfold wideW
    rw [if_pos ⟨hb a (by simp), hb b (by simp)⟩]
    rfl
theorem lineS_num {s : Sc} {l x y : List UInt8} {ys : List (List UInt8)} {k : Nat} (hsp : splitL 32 l = x :: ys) (hk : k < 6) (hx : x = cmdW k) (hn : (ys.length : Int) = cmdN k) (hy : y ∈ ys) (hb : numB y = false) : lineS s l = (s, wNo) := by
  have h2 : (ys.length : Int) = 2 := by
    rcases (show k = 0 ∨ k = 1 ∨ k = 2 ∨ k = 3 ∨ k = 4 ∨ k = 5 by omega) with e | e | e | e | e | e <;> subst e
    · exact hn
    · exact hn
    · rw [none_of hn] at hy; cases hy
    · rw [none_of hn] at hy; cases hy
    · rw [none_of hn] at hy; cases hy
    · exact hn
  obtain ⟨a, b, rfl⟩ := two_of h2
  have hnb : ¬ (numB a = true ∧ numB b = true) := by
    rintro ⟨h3, h4⟩
    simp at hy
    rcases hy with e | e <;> subst e
    · rw [h3] at hb; cases hb
    · rw [h4] at hb; cases hb
  rw [lineS_3 hsp]
  rcases (show k = 0 ∨ k = 1 ∨ k = 2 ∨ k = 3 ∨ k = 4 ∨ k = 5 by omega) with e | e | e | e | e | e <;> subst e
  · replace hx : x = wKey := hx
    rw [if_pos (Or.inl hx)]; exact if_neg hnb
  · replace hx : x = wPut := hx
    rw [if_pos (Or.inr hx)]; exact if_neg hnb
  · replace hx : x = wRead := hx
    exact absurd h2 (by rw [hn]; decide)
  · replace hx : x = wNew := hx
    exact absurd h2 (by rw [hn]; decide)
  · replace hx : x = wRing := hx
    exact absurd h2 (by rw [hn]; decide)
  · replace hx : x = wWide := hx
    rw [if_neg (by rw [hx]; decide), if_pos hx]
    show (s, wideW a b) = _
    unfold wideW
    rw [if_neg hnb]
theorem lineS_miss {s : Sc} {l x : List UInt8} {ys : List (List UInt8)} (hsp : splitL 32 l = x :: ys) (h : ∀ k, k < 6 → ¬ (x = cmdW k ∧ (ys.length : Int) = cmdN k)) : lineS s l = (s, wWhat) := by
  by_cases k0 : ys.length = 0
  · have := List.length_eq_zero_iff.1 k0
    subst this
    rw [lineS_1 hsp, if_neg (fun e : x = wRead => h 2 (by omega) ⟨e, rfl⟩), if_neg (fun e : x = wNew => h 3 (by omega) ⟨e, rfl⟩), if_neg (fun e : x = wRing => h 4 (by omega) ⟨e, rfl⟩)]
  · by_cases k2 : ys.length = 2
    · obtain ⟨a, b, rfl⟩ := two_of (ys := ys) (by omega)
      rw [lineS_3 hsp, if_neg (fun e : x = wKey ∨ x = wPut => e.elim (fun e => h 0 (by omega) ⟨e, rfl⟩) (fun e => h 1 (by omega) ⟨e, rfl⟩)), if_neg (fun e : x = wWide => h 5 (by omega) ⟨e, rfl⟩)]
    · exact lineS_o (by rw [hsp]; simp; exact fun e => k0 (by rw [e]; rfl)) (by rw [hsp]; simp; omega)
theorem split_any (t : ByteArray) (c : UInt8) (w : World) (ht : t.size ≤ 500) :
    Calls Tryz.prog 20 #[.string t, .string ⟨#[c]⟩] w fun e w' => e = .returned (.slice (some ⟨w.heap.size, 0, none⟩) (splitL c t.data.toList).length (splitL c t.data.toList).length) ∧ w' = w.alloc (.cells ((splitL c t.data.toList).map sV).toArray 9) := by
  have hs := splitB_splitL t c
  have hlen := Lib.splitB_all ⟨#[c]⟩ (Nat.le_refl 1) 0 _ t rfl
  have h1 : (splitL c t.data.toList).length = Lib.countB t ⟨#[c]⟩ + 1 := by rw [← hs, List.length_map, hlen]
  have h2 : (splitL c t.data.toList).map sV = (Lib.splitB ⟨#[c]⟩ 0 (Lib.countB t ⟨#[c]⟩) t).map Value.string := by
    rw [← hs, List.map_map]
    rfl
  rw [h1, h2]
  exact Tryz.strings_Split_byte t c w (by omega)
/-- Packets do not lie in a block of at most five cells. -/
theorem pks_small {w : World} {B n g : Nat} {T : TypeId} {A : Option Addr} {xs : List Pk} {cs : Array Value} (h : Pks w B A n xs) (hk : Bk w g T cs) (hs : cs.size ≤ 5) (hn : 0 < n) (k o : Nat) (e : A = some ⟨k, o, none⟩) : k ≠ g := by
  obtain ⟨b, off, e2, hb, hc⟩ := h.addr hn
  rw [e2] at e
  injection e with e
  injection e with e1 e3
  subst e1
  rintro rfl
  obtain ⟨x, hx⟩ : ∃ x, xs[0]? = some x := ⟨_, List.getElem?_eq_getElem (by rw [h.len]; exact hn)⟩
  obtain ⟨c0, cc1, c2, c3, c4, c5⟩ := hc 0 x hx
  rw [hk.cell, Array.getElem?_eq_none (by omega)] at c5
  cases c5
theorem MQ.far {s : Sc} {g b : Nat} {w w' : World} {T : TypeId} {cs : Array Value} (h : MQ s g w) (hk : Bk w b T cs) (hs : cs.size ≤ 5) (hX : But (fun k => k = b) w w') : MQ s g w' := by
  obtain ⟨A, c, h1, h2, h3, h4, h5⟩ := h
  have hne : g ≠ b := bk_types h1 hk (by unfold mqC; simp; omega)
  exact ⟨A, c, h1.but hX hne, Sl.more (Sl.far h2 hX (fun hn k o e => pks_small h2 hk hs hn k o e)) hX.size, h3, h4, h5.but hX (fun hn k o e => pks_small h2 hk hs hn k o e)⟩
end Go.Proofs.YthbkmnladaneaaaGreatDoor
