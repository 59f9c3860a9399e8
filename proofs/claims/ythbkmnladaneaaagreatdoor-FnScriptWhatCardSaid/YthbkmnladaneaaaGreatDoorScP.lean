/-
  Scripts, plain: words, numbers, the state, a line, a script. Nothing of the program stands here.
  No condition.
-/
import Derived.Test.YthbkmnladaneaaaGreatDoorSrP
import Derived.Test.YthbkmnladaneaaaGreatDoorSrV
import Derived.Lib.ItoaNum
namespace Go.Proofs.YthbkmnladaneaaaGreatDoor
open Go.RowKit
set_option linter.unusedVariables false
set_option linter.unusedSimpArgs false

/-- The pieces of a list at a byte. -/
def splitL (c : UInt8) : List UInt8 → List (List UInt8)
  | [] => [[]]
  | b :: l => if b = c then [] :: splitL c l else match splitL c l with
    | [] => [[b]]
    | x :: r => (b :: x) :: r
theorem splitL_ne (c : UInt8) (l : List UInt8) : splitL c l ≠ [] := by
  cases l with
  | nil => simp [splitL]
  | cons b l =>
    unfold splitL
    split
    · simp
    · split <;> simp
theorem splitL_here (c : UInt8) : ∀ (a l : List UInt8), c ∉ a → splitL c (a ++ c :: l) = a :: splitL c l
  | [], l, _ => by simp [splitL]
  | b :: a, l, h => by
    have hb : b ≠ c := fun e => h (by simp [e])
    rw [List.cons_append, splitL, if_neg hb, splitL_here c a l (fun hm => h (by simp [hm]))]
theorem splitL_none (c : UInt8) : ∀ (a : List UInt8), c ∉ a → splitL c a = [a]
  | [], _ => rfl
  | b :: a, h => by
    have hb : b ≠ c := fun e => h (by simp [e])
    rw [splitL, if_neg hb, splitL_none c a (fun hm => h (by simp [hm]))]

/-- A number in decimals, of at most seven digits. -/
def decF : Nat → Nat → List UInt8
  | 0, _ => []
  | f + 1, u => if u < 10 then [UInt8.ofNat (48 + u)] else decF f (u / 10) ++ [UInt8.ofNat (48 + u % 10)]
def decL (u : Nat) : List UInt8 := decF 7 u
theorem decF_dig : ∀ (f u : Nat), u < 10 ^ f → 0 < f → decF f u = Lib.decDigits u
  | 0, u, _, h => absurd h (by omega)
  | f + 1, u, h, _ => by
    unfold decF
    rw [Lib.decDigits]
    by_cases hu : u < 10
    · rw [if_pos hu, dif_pos hu]
    · rw [if_neg hu, dif_neg hu]
      rcases Nat.eq_zero_or_pos f with hf | hf
      · subst hf; simp at h; omega
      · rw [decF_dig f (u / 10) (by rw [Nat.div_lt_iff_lt_mul (by omega)]; rwa [Nat.pow_succ] at h) hf]
theorem decL_dig {u : Nat} (h : u < 10000000) : decL u = Lib.decDigits u := decF_dig 7 u h (by omega)
theorem decF_len : ∀ (f u : Nat), (decF f u).length ≤ f
  | 0, _ => by simp [decF]
  | f + 1, u => by
    unfold decF
    split
    · simp
    · have := decF_len f (u / 10); simp; omega
theorem decL_len (u : Nat) : (decL u).length ≤ 7 := decF_len 7 u

/-- A digit. -/
def digB (c : UInt8) : Bool := decide (48 ≤ c.toNat) && decide (c.toNat ≤ 57)
def valL (l : List UInt8) : Int := l.foldl (fun n c => 10 * n + ((c.toNat : Int) - 48)) 0
theorem valL_snoc (l : List UInt8) (c : UInt8) : valL (l ++ [c]) = 10 * valL l + ((c.toNat : Int) - 48) := by simp [valL]
/-- Is the word a number of at most five digits? -/
def numB (l : List UInt8) : Bool := decide (1 ≤ l.length) && decide (l.length ≤ 5) && !(decide (1 < l.length) && l[0]? == some 48) && l.all digB
def numI (l : List UInt8) : Int := if numB l = true then valL l else -1
theorem numI_yes {l : List UInt8} (h : numB l = true) : numI l = valL l := if_pos h
theorem numI_no {l : List UInt8} (h : numB l = false) : numI l = -1 := if_neg (by rw [h]; decide)
theorem valL_take {l : List UInt8} {k : Nat} (hk : k ≤ l.length) (h : ∀ j c, j < k → l[j]? = some c → digB c = true) : 0 ≤ valL (l.take k) ∧ valL (l.take k) < 10 ^ k := by
  induction k with
  | zero => simp [valL]
  | succ k ih =>
    have hk' : k < l.length := by omega
    obtain ⟨h0, h1⟩ := ih (by omega) fun j c hj => h j c (by omega)
    rw [List.take_succ_eq_append_getElem hk', valL_snoc]
    have hd := h k l[k] (by omega) (List.getElem?_eq_getElem hk')
    simp [digB] at hd
    rw [Int.pow_succ]
    omega
theorem valL_bd {l : List UInt8} (h : numB l = true) : 0 ≤ valL l ∧ valL l ≤ 99999 := by
  simp [numB] at h
  obtain ⟨⟨⟨h1, h2⟩, h3⟩, h4⟩ := h
  have := valL_take (l := l) (k := l.length) (Nat.le_refl _) fun j c _ hc => h4 c (List.mem_of_getElem? hc)
  rw [List.take_length] at this
  have h5 : (10 : Int) ^ l.length ≤ 10 ^ 5 := by
    rcases (show l.length = 1 ∨ l.length = 2 ∨ l.length = 3 ∨ l.length = 4 ∨ l.length = 5 by omega) with e | e | e | e | e <;> rw [e] <;> decide
  have h6 : (10 : Int) ^ 5 = 100000 := by decide
  omega
theorem numI_bd (l : List UInt8) : -1 ≤ numI l ∧ numI l ≤ 99999 := by
  cases h : numB l with
  | true => rw [numI_yes h]; have := valL_bd h; omega
  | false => rw [numI_no h]; omega

/-- A ring of room four and its reader. -/
structure Sc where
  co : Int
  xs : List Pk
  nx : Int
  lo : Int
  wt : Bool
def sc0 : Sc := ⟨0, [], 0, 0, true⟩
def scOk (s : Sc) : Prop := rgOk 4 s.co s.xs ∧ 0 ≤ s.nx ∧ s.nx ≤ s.co ∧ 0 ≤ s.lo ∧ s.lo ≤ 999999
theorem sc0_ok : scOk sc0 := by
  refine ⟨⟨by decide, by decide, by decide, by decide, ⟨by simp [sc0], fun j x h => absurd h (by simp [sc0])⟩, by decide⟩, by decide, by decide, by decide, by decide⟩

/-- May the packet be put? -/
def putOkB (s : Sc) (p : Pk) : Bool :=
  decide (0 ≤ p.wi) && decide (p.wi ≤ 999999) && decide (0 ≤ p.ti) && decide (p.ti ≤ 99999) && decide (0 ≤ p.la) && decide (p.la ≤ 2) && decide (1 ≤ p.si) && decide (p.si ≤ 1500) &&
  (match s.xs.getLast? with | none => true | some y => decide (y.wi < p.wi) && decide (y.ti ≤ p.ti)) && decide (s.co + 1 ≤ 999999)
/-- The place of the last packet that begins a picture that needs no other one, or -1. -/
def keyI : List Pk → Int
  | [] => -1
  | x :: xs => if 0 ≤ keyI xs then keyI xs + 1 else if x.ky = true then 0 else -1
def oldI (s : Sc) : Int := s.co - (s.xs.length : Int)
/-- Reading goes on at the last key from a number on, or at the end. -/
def skipS (s : Sc) (from_ : Int) : Sc :=
  if 0 ≤ keyI s.xs ∧ from_ ≤ oldI s + keyI s.xs then { s with nx := oldI s + keyI s.xs, lo := min (s.lo + (oldI s + keyI s.xs) - s.nx) 999999, wt := false }
  else { s with nx := s.co, lo := min (s.lo + s.co - s.nx) 999999, wt := true }
inductive Took where
  | got (p : Pk)
  | none
  | lost
/-- Reading a packet. -/
def takeS (s : Sc) : Sc × Took :=
  if s.nx < oldI s then (skipS s (oldI s), .lost)
  else if s.nx = s.co then (s, .none)
  else match s.xs[(s.nx - oldI s).toNat]? with
    | none => (s, .none)
    | some p => if s.wt = true ∧ p.ky = false then (skipS s s.nx, .lost) else ({ s with nx := s.nx + 1, wt := false }, .got p)
/-- A new reader. -/
def newS (s : Sc) : Sc := if 0 ≤ keyI s.xs then { s with nx := oldI s + keyI s.xs, lo := 0, wt := false } else { s with nx := s.co, lo := 0, wt := true }

def wOk : List UInt8 := [111, 107]
def wNo : List UInt8 := [110, 111]
def wWhat : List UInt8 := [119, 104, 97, 116]
def wNone : List UInt8 := [110, 111, 110, 101]
def wKey : List UInt8 := [107, 101, 121]
def wPut : List UInt8 := [112, 117, 116]
def wRead : List UInt8 := [114, 101, 97, 100]
def wNew : List UInt8 := [110, 101, 119]
def wRing : List UInt8 := [114, 105, 110, 103]
def wWide : List UInt8 := [119, 105, 100, 101]
def wGotB : List UInt8 := [103, 111, 116, 32]
def wLostB : List UInt8 := [108, 111, 115, 116, 32]
def wRingB : List UInt8 := [114, 105, 110, 103, 32]
def wWideB : List UInt8 := [119, 105, 100, 101, 32]
def dI (n : Int) : List UInt8 := decL n.toNat
def lostA (s : Sc) : List UInt8 := wLostB ++ dI s.lo
/-- A put, its two numbers there. -/
def putS (s : Sc) (ky : Bool) (a b : Int) : Sc × List UInt8 :=
  if putOkB s ⟨a, b, 0, 100, ky, false⟩ = true then ({ s with co := s.co + 1, xs := putL 4 s.xs ⟨a, b, 0, 100, ky, false⟩ }, wOk) else (s, wNo)
def readS (s : Sc) : Sc × List UInt8 :=
  match takeS s with
  | (s', .got p) => (s', wGotB ++ dI p.wi)
  | (s', .none) => (s', wNone)
  | (s', .lost) => (s', lostA s')
def wideA (a b : Int) : List UInt8 :=
  if 0 ≤ a ∧ a ≤ 999999 ∧ 0 ≤ b ∧ b < 65536 ∧ 0 ≤ wideNum a b ∧ wideNum a b ≤ 999999 then wWideB ++ dI (wideNum a b) else wNo
/-- A line: its answer, without the newline. -/
def lineS (s : Sc) (l : List UInt8) : Sc × List UInt8 :=
  match splitL 32 l with
  | [w] => if w = wRead then readS s else if w = wNew then (newS s, wOk) else if w = wRing then (s, wRingB ++ dI (oldI s) ++ [32] ++ dI s.co) else (s, wWhat)
  | [w, a, b] =>
    if w = wKey ∨ w = wPut then (if numB a = true ∧ numB b = true then putS s (decide (w = wKey)) (valL a) (valL b) else (s, wNo))
    else if w = wWide then (s, if numB a = true ∧ numB b = true then wideA (valL a) (valL b) else wNo)
    else (s, wWhat)
  | _ => (s, wWhat)
/-- Lines, one behind the other: the state, and what they print. -/
def runS : Sc → List (List UInt8) → Sc × List UInt8
  | s, [] => (s, [])
  | s, l :: ls => ((runS (lineS s l).1 ls).1, (lineS s l).2 ++ [10] ++ (runS (lineS s l).1 ls).2)
def wLong : List UInt8 := [116, 111, 111, 32, 108, 111, 110, 103, 10]
/-- A script. -/
def execL (t : List UInt8) : List UInt8 :=
  if 500 < t.length then wLong else (runS sc0 (splitL 10 t).dropLast).2 ++ lostA (runS sc0 (splitL 10 t).dropLast).1 ++ [10]
theorem runS_snoc : ∀ (ls : List (List UInt8)) (s : Sc) (l : List UInt8), runS s (ls ++ [l]) = ((lineS (runS s ls).1 l).1, (runS s ls).2 ++ ((lineS (runS s ls).1 l).2 ++ [10]))
  | [], s, l => by simp [runS]
  | k :: ls, s, l => by
    rw [List.cons_append]
    simp only [runS, runS_snoc ls]
    simp [List.append_assoc]
end Go.Proofs.YthbkmnladaneaaaGreatDoor
