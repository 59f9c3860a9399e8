/-
  Pacers: puts and ticks whatever the pacer, with the rows that may be marked.
  Conditions: as each theorem states them.
-/
import Derived.Test.YtilokgloocbbnaaRows
import Derived.Test.YtilokgloocbbnaaLib
import Derived.Test.YtilokgloocbbnaaOwn
import Derived.Test.YtilokgloocbbnaaBut
import Derived.Test.YtilokgloocbbnaaPac
import Derived.Test.YtilokgloocbbnaaPacB
import Derived.Test.YtilokgloocbbnaaPacP
import Derived.Test.YtilokgloocbbnaaPacH
import Derived.Test.YtilokgloocbbnaaPacI
import Derived.Test.YtilokgloocbbnaaPacJ
import Derived.Test.YtilokgloocbbnaaPacK
import Derived.Test.YtilokgloocbbnaaSeqW
import Derived.Test.YtilokgloocbbnaaPacX
namespace Go.Proofs.Ytilokgloocbbnaa
open Go.RowKit
set_option linter.unusedVariables false
set_option linter.unusedSimpArgs false

/-- A slice of packets whose row, if there is one, is block g from N on. -/
structure MR (w : World) (N : Nat) (A : Option Addr) (g : Nat) (ys : List Wt) (cs : List Value) : Prop where
  seq : Wts w w.heap.size A ys.length ys
  row : 0 < ys.length → A = some ⟨g, 0, none⟩ ∧ N ≤ g ∧ g < w.heap.size ∧ Bk w g 27 cs.toArray ∧ ys.length * 3 ≤ cs.length
theorem MR.nil_ (w : World) (N : Nat) (A : Option Addr) (g : Nat) (cs : List Value) : MR w N A g [] cs := ⟨Sl.none_, fun h => absurd h (by simp)⟩
theorem MR.of_own {w : World} {N : Nat} {v : Value} {ys : List Wt} (h : w.ownsRow N 27 3 v ys.length (ys.flatMap Wt.c)) : ∃ A c g cs, v = .slice A ys.length c ∧ MR w N A g ys cs ∧ (0 < ys.length → v.ownBlock = some g) := by
  obtain ⟨A, c, e, _, _, hs⟩ := own_shape h
  rcases h.2 with ⟨hv, h0⟩ | ⟨g, cap, cur, hv, hN, hg, hnc, hcm, hsz, _⟩
  · refine ⟨A, c, 0, [], e, ⟨hs, fun hp => ?_⟩, fun hp => ?_⟩
    · exact absurd hp (by omega)
    · exact absurd hp (by omega)
  · rw [e] at hv
    injection hv with h1 h2 h3
    refine ⟨A, c, g, cur.toList, e, ⟨hs, fun hp => ⟨h1, hN, (Array.getElem?_eq_some_iff.1 hg).1, by simpa using (show Bk w g _ cur from hg), ?_⟩⟩, fun hp => by rw [e, h1]; rfl⟩
    have hcs : cur.toList.length = cap * 3 := by simpa using hsz
    have := Nat.mul_le_mul_right 3 hnc
    omega
theorem MR.below_ {w w' : World} {N g : Nat} {A : Option Addr} {ys : List Wt} {cs : List Value} (h : MR w N A g ys cs) (hb : Below w.heap.size w w') : MR w' N A g ys cs :=
  ⟨(Wts.below h.seq hb).more hb.size, fun hp => by
    obtain ⟨h1, h2, h3, h4, h5⟩ := h.row hp
    exact ⟨h1, h2, by have := hb.size; omega, h4.below hb h3, h5⟩⟩

open Classical in
noncomputable def tE (ea cr : Int) (xs : List Wt) : Int := if pOk ea cr xs then ea else 0
open Classical in
noncomputable def tC (ea cr : Int) (xs : List Wt) : Int := if pOk ea cr xs then nx ea cr xs else 0
open Classical in
noncomputable def tY (ea cr : Int) (xs : List Wt) : List Wt := if pOk ea cr xs then rs ea cr xs else []
open Classical in
noncomputable def tZ (ea cr : Int) (xs : List Wt) : List Wt := if pOk ea cr xs then sn ea cr xs else []
noncomputable def tB (ea cr : Int) (xs : List Wt) : Bool := pB ea cr xs
def TickAll (ea cr : Int) (xs : List Wt) (w : World) (y : Ending) (w' : World) : Prop :=
  ∃ A c g cs A' c' g' cs', y = .returned (.tuple #[.agg #[.int .i64 (tE ea cr xs), .int .i64 (tC ea cr xs), .slice A (tY ea cr xs).length c], .slice A' (tZ ea cr xs).length c', .bool (tB ea cr xs)]) ∧
    MR w' w.heap.size A g (tY ea cr xs) cs ∧ MR w' w.heap.size A' g' (tZ ea cr xs) cs' ∧ (0 < (tY ea cr xs).length → 0 < (tZ ea cr xs).length → g ≠ g') ∧ Below w.heap.size w w'
theorem tick_good {ea cr : Int} {xs : List Wt} {w : World} {y : Ending} {w' : World} (hp : pOk ea cr xs) (h : tick3 ea cr xs w y w') : TickAll ea cr xs w y w' := by
  obtain ⟨v, u, rfl, h1, h2, h3, h4⟩ := h
  obtain ⟨A, c, g, cs, rfl, m1, b1⟩ := MR.of_own h1
  obtain ⟨A', c', g', cs', rfl, m2, b2⟩ := MR.of_own h2
  unfold TickAll tE tC tY tZ tB
  simp only [if_pos hp, pB_true.2 hp]
  exact ⟨A, c, g, cs, A', c', g', cs', rfl, m1, m2, fun p1 p2 e => h3 g (b1 p1) (by rw [e]; exact b2 p2), h4⟩
theorem tick_bad {ea cr : Int} {xs : List Wt} {w : World} {y : Ending} {w' : World} (hp : ¬ pOk ea cr xs) (h : tickBad w y w') : TickAll ea cr xs w y w' := by
  obtain ⟨g, rfl, h4⟩ := h
  unfold TickAll tE tC tY tZ tB
  simp only [if_neg hp, pB_false.2 hp]
  exact ⟨none, 0, 0, [], some ⟨g, 0, none⟩, 0, 0, [], rfl, MR.nil_ _ _ _ _ _, MR.nil_ _ _ _ _ _, fun h => absurd h (by simp), h4⟩
theorem itick_all (ea cr : Int) (A : Option Addr) (n c : Nat) (xs : List Wt) (w : World) (h : Wts w w.heap.size A n xs) (hn : n ≤ 1099511627776) :
    Calls Try.prog 20 #[.agg #[.int .i64 ea, .int .i64 cr, .slice A n c]] w (TickAll ea cr xs w) := by
  by_cases hp : pOk ea cr xs
  · exact (itick_good ea cr A n c xs w h hp).mono fun _ _ => tick_good hp
  · exact (itick_bad ea cr A n c xs w h hn hp).mono fun _ _ => tick_bad hp
theorem stick_all (ea cr : Int) (A : Option Addr) (n c : Nat) (xs : List Wt) (w : World) (h : Wts w w.heap.size A n xs) (hn : n ≤ 1099511627776) (hnc : n ≤ c) (hc : c ≤ maxLen) :
    Calls Try.prog 21 #[.agg #[.int .i64 ea, .int .i64 cr, .slice A n c]] w (TickAll ea cr xs w) := by
  by_cases hp : pOk ea cr xs
  · exact (stick_good ea cr A n c xs w h hnc hc hp).mono fun _ _ => tick_good hp
  · exact (stick_bad ea cr A n c xs w h hn hp).mono fun _ _ => tick_bad hp
theorem tY_le (ea cr : Int) (xs : List Wt) : (tY ea cr xs).length ≤ xs.length := by
  unfold tY
  split
  · unfold rs; simp
  · simp
theorem tZ_le (ea cr : Int) (xs : List Wt) : (tZ ea cr xs).length ≤ xs.length := by
  unfold tZ
  split
  · unfold sn; rw [List.length_take]; omega
  · simp

open Classical in
noncomputable def uE (ea cr : Int) (xs : List Wt) (x : Wt) : Int := if PutIn ea cr xs x then ea else 0
open Classical in
noncomputable def uC (ea cr : Int) (xs : List Wt) (x : Wt) : Int := if PutIn ea cr xs x then cr else 0
noncomputable def uK (xs : List Wt) (x : Wt) : Nat := Classical.choose (lead_ex xs x.cl)
open Classical in
noncomputable def uY (ea cr : Int) (xs : List Wt) (x : Wt) : List Wt := if PutIn ea cr xs x then putAt xs (uK xs x) x else []
open Classical in
noncomputable def uB (ea cr : Int) (xs : List Wt) (x : Wt) : Bool := if PutIn ea cr xs x then true else false
def PutAll (ea cr : Int) (xs : List Wt) (x : Wt) (w : World) (y : Ending) (w' : World) : Prop :=
  ∃ A c g cs, y = .returned (.tuple #[.agg #[.int .i64 (uE ea cr xs x), .int .i64 (uC ea cr xs x), .slice A (uY ea cr xs x).length c], .bool (uB ea cr xs x)]) ∧ MR w' w.heap.size A g (uY ea cr xs x) cs ∧ Below w.heap.size w w'
theorem put_good {ea cr : Int} {xs : List Wt} {x : Wt} {w : World} {y : Ending} {w' : World} (hp : PutIn ea cr xs x) (h : ∃ k, Lead xs x.cl k ∧ putGood ea cr (putAt xs k x) w y w') : PutAll ea cr xs x w y w' := by
  obtain ⟨k, hk, v, rfl, h1, h2⟩ := h
  have hku : k = uK xs x := hk.uniq (Classical.choose_spec (lead_ex xs x.cl))
  subst hku
  obtain ⟨A, c, g, cs, rfl, m1, b1⟩ := MR.of_own h1
  unfold PutAll uE uC uY uB
  simp only [if_pos hp]
  exact ⟨A, c, g, cs, rfl, m1, h2⟩
theorem put_bad {ea cr : Int} {xs : List Wt} {x : Wt} {w : World} {y : Ending} {w' : World} (hp : ¬ PutIn ea cr xs x) (h : putBad w y w') : PutAll ea cr xs x w y w' := by
  obtain ⟨rfl, h2⟩ := h
  unfold PutAll uE uC uY uB
  simp only [if_neg hp]
  exact ⟨none, 0, 0, [], rfl, MR.nil_ _ _ _ _ _, h2⟩
theorem iput_all (ea cr : Int) (A : Option Addr) (n c : Nat) (xs : List Wt) (x : Wt) (w : World) (h : Wts w w.heap.size A n xs) (hn : n ≤ 1099511627776) :
    Calls Try.prog 14 #[.agg #[.int .i64 ea, .int .i64 cr, .slice A n c], .agg #[.int .i64 x.id, .int .i64 x.cl, .int .i64 x.sz]] w (PutAll ea cr xs x w) := by
  by_cases hp : PutIn ea cr xs x
  · exact (iput_good ea cr A n c xs x w h hn hp).mono fun _ _ => put_good hp
  · exact (iput_bad ea cr A n c xs x w h hn hp).mono fun _ _ => put_bad hp
theorem sput_all (ea cr : Int) (A : Option Addr) (n c : Nat) (xs : List Wt) (x : Wt) (w : World) (h : Wts w w.heap.size A n xs) (hn : n ≤ 1099511627776) (hnc : n ≤ c) (hc : c ≤ maxLen) :
    Calls Try.prog 15 #[.agg #[.int .i64 ea, .int .i64 cr, .slice A n c], .agg #[.int .i64 x.id, .int .i64 x.cl, .int .i64 x.sz]] w (PutAll ea cr xs x w) := by
  by_cases hp : PutIn ea cr xs x
  · exact (sput_good ea cr A n c xs x w h hn hnc hc hp).mono fun _ _ => put_good hp
  · exact (sput_bad ea cr A n c xs x w h hn hp).mono fun _ _ => put_bad hp
theorem uY_le (ea cr : Int) (xs : List Wt) (x : Wt) : (uY ea cr xs x).length ≤ xs.length + 1 := by
  unfold uY
  split
  · have h1 : uK xs x ≤ xs.length := (Classical.choose_spec (lead_ex xs x.cl)).1
    rw [putAt_len h1]
    exact Nat.le_refl _
  · simp
theorem MR.le_ {w : World} {N N' g : Nat} {A : Option Addr} {ys : List Wt} {cs : List Value} (h : MR w N A g ys cs) (hN : N' ≤ N) : MR w N' A g ys cs :=
  ⟨h.seq, fun hp => by obtain ⟨h1, h2, h3⟩ := h.row hp; exact ⟨h1, by omega, h3⟩⟩
theorem MR.but_ {X : Nat → Prop} {w w' : World} {N g : Nat} {A : Option Addr} {ys : List Wt} {cs : List Value} (h : MR w N A g ys cs) (hb : But X w w') (hg : 0 < ys.length → ¬ X g) : MR w' N A g ys cs := by
  rcases Nat.eq_zero_or_pos ys.length with h0 | h0
  · have : ys = [] := List.eq_nil_of_length_eq_zero h0
    subst this
    exact MR.nil_ _ _ _ _ _
  · obtain ⟨h1, h2, h3, h4, h5⟩ := h.row h0
    refine ⟨(Sl.but h.seq hb fun k o e => ?_).more hb.size, fun hp => ⟨h1, h2, by have := hb.size; omega, h4.but hb (hg h0), h5⟩⟩
    rw [h1] at e
    injection e with e
    injection e with e _
    subst e
    exact hg h0
theorem MR.of_row {w : World} {N g : Nat} {xs : List Wt} (h : Bk w g 27 (xs.flatMap Wt.c).toArray) (hN : N ≤ g) : MR w N (some ⟨g, 0, none⟩) g xs (xs.flatMap Wt.c) :=
  ⟨seq_rowW h rfl, fun _ => ⟨rfl, hN, h.lt, h, by rw [flat_len]; exact Nat.le_refl _⟩⟩
/-- Marks lie in block g. -/
def MK (w : World) (g m : Nat) (k0 : Int) : Prop := 0 < m → ∃ r, Bk w g 27 (mksW k0 m ++ r).toArray
theorem MK.below_ {w w' : World} {g m : Nat} {k0 : Int} (h : MK w g m k0) (hb : Below w.heap.size w w') : MK w' g m k0 := fun hp => by
  obtain ⟨r, hr⟩ := h hp
  exact ⟨r, hr.below hb hr.lt⟩
theorem MK.but_ {X : Nat → Prop} {w w' : World} {g m : Nat} {k0 : Int} (h : MK w g m k0) (hb : But X w w') (hg : 0 < m → ¬ X g) : MK w' g m k0 := fun hp => by
  obtain ⟨r, hr⟩ := h hp
  exact ⟨r, hr.but hb (hg hp)⟩
theorem MK.held {w : World} {g m : Nat} {k0 : Int} (h : MK w g m k0) : ∃ r, 0 < m → Bk w g 27 (mksW k0 m ++ r).toArray := by
  rcases Nat.eq_zero_or_pos m with h0 | h0
  · exact ⟨[], fun hp => absurd hp (by omega)⟩
  · obtain ⟨r, hr⟩ := h h0
    exact ⟨r, fun _ => hr⟩
theorem Wts.but_lt {X : Nat → Prop} {w w' : World} {B n : Nat} {A : Option Addr} {xs : List Wt} (h : Wts w B A n xs) (hb : But X w w') (hX : ∀ k, X k → B ≤ k) : Wts w' B A n xs :=
  ⟨h.1, fun hn => by
    obtain ⟨b, off, e, hlt, hc⟩ := h.2 hn
    exact ⟨b, off, e, hlt, fun j u hu => hb.cell (hc j u hu) fun hx => by have := hX b hx; omega⟩⟩
theorem markP_MR {w : World} {N g : Nat} {A : Option Addr} {ys : List Wt} {cs : List Value} (e1 e2 : Int) (c : Nat) (k0 : Int) (h : MR w N A g ys cs) (hc : ys.length ≤ 2097152) (hk : 0 ≤ k0) (hk' : k0 ≤ 1099511627776) :
    Calls Try.prog 29 #[.agg #[.int .i64 e1, .int .i64 e2, .slice A ys.length c], .int .i64 k0] w fun e w' => e = .returned (.int .i64 (k0 + ys.length * 3)) ∧ MK w' g ys.length k0 ∧ But (fun k => k = g ∧ 0 < ys.length) w w' :=
  markP_any e1 e2 A g ys.length c cs k0 w (fun hp => by obtain ⟨h1, _, _, h4, h5⟩ := h.row hp; exact ⟨h1, h4, h5⟩) hc hk hk'
theorem markW_MR {w : World} {N g : Nat} {A : Option Addr} {ys : List Wt} {cs : List Value} (c : Nat) (k0 : Int) (h : MR w N A g ys cs) (hc : ys.length ≤ 2097152) (hk : 0 ≤ k0) (hk' : k0 ≤ 1099511627776) :
    Calls Try.prog 32 #[.slice A ys.length c, .int .i64 k0] w fun e w' => e = .returned (.int .i64 (k0 + ys.length * 3)) ∧ MK w' g ys.length k0 ∧ But (fun k => k = g ∧ 0 < ys.length) w w' :=
  markWaitingS_any A g ys.length c cs k0 w (fun hp => by obtain ⟨h1, _, _, h4, h5⟩ := h.row hp; exact ⟨h1, h4, h5⟩) hc hk hk'
theorem heldP_MK {w : World} {g m : Nat} {A : Option Addr} (e1 e2 : Int) (c : Nat) (k0 : Int) (h : MK w g m k0) (hA : 0 < m → A = some ⟨g, 0, none⟩) (hc : m ≤ 2097152) (hk : 0 ≤ k0) (hk' : k0 ≤ 1099511627776) :
    Calls Try.prog 30 #[.agg #[.int .i64 e1, .int .i64 e2, .slice A m c], .int .i64 k0] w fun e w' => e = .returned (.int .i64 (k0 + m * 3)) ∧ Below w.heap.size w w' := by
  obtain ⟨r, hr⟩ := h.held
  exact heldP_any e1 e2 A g m c r k0 w (fun hp => ⟨hA hp, hr hp⟩) hc hk hk'
theorem heldW_MK {w : World} {g m : Nat} {A : Option Addr} (c : Nat) (k0 : Int) (h : MK w g m k0) (hA : 0 < m → A = some ⟨g, 0, none⟩) (hc : m ≤ 2097152) (hk : 0 ≤ k0) (hk' : k0 ≤ 1099511627776) :
    Calls Try.prog 33 #[.slice A m c, .int .i64 k0] w fun e w' => e = .returned (.int .i64 (k0 + m * 3)) ∧ Below w.heap.size w w' := by
  obtain ⟨r, hr⟩ := h.held
  exact (heldWaitingS_any A g m c r k0 w (fun hp => ⟨hA hp, hr hp⟩) hc hk hk').mono fun _ _ ⟨h1, h2⟩ => ⟨h1, h2 ▸ Below.refl _ _⟩
theorem eqP_MR {w : World} {N N' g g' : Nat} {A A' : Option Addr} {ys : List Wt} {cs cs' : List Value} (e1 e2 : Int) (c c' : Nat) (h : MR w N A g ys cs) (h' : MR w N' A' g' ys cs') (hc : ys.length ≤ 2097152) :
    Calls Try.prog 28 #[.agg #[.int .i64 e1, .int .i64 e2, .slice A ys.length c], .agg #[.int .i64 e1, .int .i64 e2, .slice A' ys.length c']] w fun e w' => e = .returned (.bool true) ∧ Below w.heap.size w w' :=
  eqP_same e1 e2 A A' ys.length c c' w.heap.size ys w h.seq h'.seq (Nat.le_refl _) (by omega)
theorem eqW_MR {w : World} {N N' g g' : Nat} {A A' : Option Addr} {ys : List Wt} {cs cs' : List Value} (c c' : Nat) (h : MR w N A g ys cs) (h' : MR w N' A' g' ys cs') (hc : ys.length ≤ 2097152) :
    Calls Try.prog 31 #[.slice A ys.length c, .slice A' ys.length c'] w fun e w' => e = .returned (.bool true) ∧ Below w.heap.size w w' :=
  eqWaitingS_same A A' ys.length c c' w.heap.size ys w h.seq h'.seq (Nat.le_refl _) (by omega)
theorem toP_MR (ea cr : Int) (A : Option Addr) (n c B : Nat) (xs : List Wt) (w : World) (h : Wts w B A n xs) (hB : B ≤ w.heap.size) (hn : n ≤ 2097152) :
    Calls Try.prog 26 #[.agg #[.int .i64 ea, .int .i64 cr, .slice A n c]] w fun e w' => ∃ g, e = .returned (.agg #[.int .i64 ea, .int .i64 cr, .slice (some ⟨g, 0, none⟩) n n]) ∧ MR w' w.heap.size (some ⟨g, 0, none⟩) g xs (xs.flatMap Wt.c) ∧ Below w.heap.size w w' :=
  (toP_any ea cr A n c xs w (Sl.more h hB) hn).mono fun _ _ ⟨g, h1, h2, h3, h4⟩ => ⟨g, h1, MR.of_row h3 h2, h4⟩
end Go.Proofs.Ytilokgloocbbnaa
