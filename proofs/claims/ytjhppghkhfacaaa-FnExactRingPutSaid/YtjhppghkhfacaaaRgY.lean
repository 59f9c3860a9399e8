/-
  Rings: puts and ticks whatever the ring, with the rows that may be marked.
  Conditions: as each theorem states them.
-/
import Derived.Test.YtjhppghkhfacaaaRows
import Derived.Test.YtjhppghkhfacaaaLib
import Derived.Test.YtjhppghkhfacaaaOwn
import Derived.Test.YtjhppghkhfacaaaBut
import Derived.Test.YtjhppghkhfacaaaSeqP
import Derived.Test.YtjhppghkhfacaaaRgX
namespace Go.Proofs.Ytjhppghkhfacaaa
open Go.RowKit
set_option linter.unusedVariables false
set_option linter.unusedSimpArgs false


theorem Sl.none_ {w : World} {B size : Nat} {A : Option Addr} : Sl w B size A 0 [] := ⟨by simp, fun h => absurd h (by omega)⟩
/-- A slice of packets whose row, if there is one, is block g from N on. -/
structure MR (w : World) (N : Nat) (A : Option Addr) (g : Nat) (ys : List Pk) (cs : List Value) : Prop where
  seq : Pks w w.heap.size A ys.length ys
  row : 0 < ys.length → A = some ⟨g, 0, none⟩ ∧ N ≤ g ∧ g < w.heap.size ∧ Bk w g 27 cs.toArray ∧ ys.length * 6 ≤ cs.length
theorem MR.nil_ (w : World) (N : Nat) (A : Option Addr) (g : Nat) (cs : List Value) : MR w N A g [] cs := ⟨Sl.none_, fun h => absurd h (by simp)⟩
theorem MR.of_own {w : World} {N : Nat} {v : Value} {ys : List Pk} (h : w.ownsRow N 27 6 v ys.length (ys.flatMap Pk.c)) : ∃ A c g cs, v = .slice A ys.length c ∧ MR w N A g ys cs ∧ (0 < ys.length → v.ownBlock = some g) := by
  obtain ⟨A, c, e, _, _, hs⟩ := own_shape h
  rcases h.2 with ⟨hv, h0⟩ | ⟨g, cap, cur, hv, hN, hg, hnc, hcm, hsz, _⟩
  · refine ⟨A, c, 0, [], e, ⟨hs, fun hp => ?_⟩, fun hp => ?_⟩
    · exact absurd hp (by omega)
    · exact absurd hp (by omega)
  · rw [e] at hv
    injection hv with h1 h2 h3
    refine ⟨A, c, g, cur.toList, e, ⟨hs, fun hp => ⟨h1, hN, (Array.getElem?_eq_some_iff.1 hg).1, by simpa using (show Bk w g _ cur from hg), ?_⟩⟩, fun hp => by rw [e, h1]; rfl⟩
    have hcs : cur.toList.length = cap * 6 := by simpa using hsz
    have := Nat.mul_le_mul_right 6 hnc
    omega
theorem MR.below_ {w w' : World} {N g : Nat} {A : Option Addr} {ys : List Pk} {cs : List Value} (h : MR w N A g ys cs) (hb : Below w.heap.size w w') : MR w' N A g ys cs :=
  ⟨(Pks.below h.seq hb).more hb.size, fun hp => by
    obtain ⟨h1, h2, h3, h4, h5⟩ := h.row hp
    exact ⟨h1, h2, by have := hb.size; omega, h4.below hb h3, h5⟩⟩

/-- A slice of packets that lies in block g, from N on, wherever in it. -/
structure MQ (w : World) (N : Nat) (A : Option Addr) (g : Nat) (ys : List Pk) (cs : List Value) : Prop where
  seq : Pks w w.heap.size A ys.length ys
  row : 0 < ys.length → (∃ o, A = some ⟨g, o, none⟩) ∧ N ≤ g ∧ g < w.heap.size
theorem MR.q {w : World} {N : Nat} {A : Option Addr} {g : Nat} {ys : List Pk} {cs : List Value} (h : MR w N A g ys cs) : MQ w N A g ys cs :=
  ⟨h.seq, fun hp => by obtain ⟨h1, h2, h3, _⟩ := h.row hp; exact ⟨⟨0, h1⟩, h2, h3⟩⟩
theorem MQ.nil_ (w : World) (N : Nat) (A : Option Addr) (g : Nat) (cs : List Value) : MQ w N A g [] cs := (MR.nil_ w N A g cs).q
theorem MQ.of {w : World} {N : Nat} {A : Option Addr} {ys : List Pk} (h : Pks w w.heap.size A ys.length ys) (hf : Fr N A) : ∃ g, MQ w N A g ys [] := by
  rcases Nat.eq_zero_or_pos ys.length with h0 | h0
  · exact ⟨0, h, fun hp => absurd hp (by omega)⟩
  · obtain ⟨b, off, e, hb, _⟩ := h.2 h0
    exact ⟨b, h, fun _ => ⟨⟨off, e⟩, hf b off _ e, hb⟩⟩
theorem MQ.below_ {w w' : World} {N g : Nat} {A : Option Addr} {ys : List Pk} {cs : List Value} (h : MQ w N A g ys cs) (hb : Below w.heap.size w w') : MQ w' N A g ys cs :=
  ⟨(Pks.below h.seq hb).more hb.size, fun hp => by
    obtain ⟨h1, h2, h3⟩ := h.row hp
    exact ⟨h1, h2, by have := hb.size; omega⟩⟩
theorem MQ.le_ {w : World} {N N' g : Nat} {A : Option Addr} {ys : List Pk} {cs : List Value} (h : MQ w N A g ys cs) (hN : N' ≤ N) : MQ w N' A g ys cs :=
  ⟨h.seq, fun hp => by obtain ⟨h1, h2, h3⟩ := h.row hp; exact ⟨h1, by omega, h3⟩⟩
theorem MQ.but_ {X : Nat → Prop} {w w' : World} {N g : Nat} {A : Option Addr} {ys : List Pk} {cs : List Value} (h : MQ w N A g ys cs) (hb : But X w w') (hg : 0 < ys.length → ¬ X g) : MQ w' N A g ys cs := by
  rcases Nat.eq_zero_or_pos ys.length with h0 | h0
  · have : ys = [] := List.eq_nil_of_length_eq_zero h0
    subst this
    exact MQ.nil_ _ _ _ _ _
  · obtain ⟨⟨o, h1⟩, h2, h3⟩ := h.row h0
    refine ⟨(Sl.but h.seq hb fun k o' e => ?_).more hb.size, fun hp => ⟨⟨o, h1⟩, h2, by have := hb.size; omega⟩⟩
    rw [h1] at e
    injection e with e
    injection e with e _
    subst e
    exact hg h0
open Classical in
noncomputable def uE (ea cr : Int) (xs : List Pk) (x : Pk) : Int := if RpIn ea cr xs x then ea else 0
open Classical in
noncomputable def uC (ea cr : Int) (xs : List Pk) (x : Pk) : Int := if RpIn ea cr xs x then cr + 1 else 0
open Classical in
noncomputable def uY (ea cr : Int) (xs : List Pk) (x : Pk) : List Pk := if RpIn ea cr xs x then putL ea xs x else []
open Classical in
noncomputable def uB (ea cr : Int) (xs : List Pk) (x : Pk) : Bool := if RpIn ea cr xs x then true else false
def PutQ (ea cr : Int) (xs : List Pk) (x : Pk) (w : World) (y : Ending) (w' : World) : Prop :=
  ∃ A c g cs, y = .returned (.tuple #[.agg #[.int .i64 (uE ea cr xs x), .int .i64 (uC ea cr xs x), .slice A (uY ea cr xs x).length c], .bool (uB ea cr xs x)]) ∧ MQ w' w.heap.size A g (uY ea cr xs x) cs ∧ Below w.heap.size w w'
def PutAll (ea cr : Int) (xs : List Pk) (x : Pk) (w : World) (y : Ending) (w' : World) : Prop :=
  ∃ A c g cs, y = .returned (.tuple #[.agg #[.int .i64 (uE ea cr xs x), .int .i64 (uC ea cr xs x), .slice A (uY ea cr xs x).length c], .bool (uB ea cr xs x)]) ∧ MR w' w.heap.size A g (uY ea cr xs x) cs ∧ Below w.heap.size w w'
theorem put_goodQ {ea cr : Int} {xs : List Pk} {x : Pk} {w : World} {y : Ending} {w' : World} (hp : RpIn ea cr xs x) (h : RgGood ea (cr + 1) (putL ea xs x) w y w') : PutQ ea cr xs x w y w' := by
  obtain ⟨v, rfl, ⟨A, c, rfl, _, _, h3, h4⟩, h2⟩ := h
  obtain ⟨g, m1⟩ := MQ.of h3 h4
  unfold PutQ uE uC uY uB
  simp only [if_pos hp]
  exact ⟨A, c, g, [], rfl, m1, h2⟩
theorem put_good {ea cr : Int} {xs : List Pk} {x : Pk} {w : World} {y : Ending} {w' : World} (hp : RpIn ea cr xs x) (h : RgGoodO ea (cr + 1) (putL ea xs x) w y w') : PutAll ea cr xs x w y w' := by
  obtain ⟨v, rfl, ⟨A, c, rfl, h1⟩, h2⟩ := h
  obtain ⟨A', c', g, cs, e', m1, b1⟩ := MR.of_own h1
  injection e' with e1 e2 e3
  subst e1 e3
  unfold PutAll uE uC uY uB
  simp only [if_pos hp]
  exact ⟨A, c, g, cs, rfl, m1, h2⟩
theorem put_bad {ea cr : Int} {xs : List Pk} {x : Pk} {w : World} {y : Ending} {w' : World} (hp : ¬ RpIn ea cr xs x) (h : RgBad w y w') : PutAll ea cr xs x w y w' := by
  obtain ⟨rfl, h2⟩ := h
  unfold PutAll uE uC uY uB
  simp only [if_neg hp]
  exact ⟨none, 0, 0, [], rfl, MR.nil_ _ _ _ _ _, h2⟩
theorem PutAll.q {ea cr : Int} {xs : List Pk} {x : Pk} {w : World} {y : Ending} {w' : World} (h : PutAll ea cr xs x w y w') : PutQ ea cr xs x w y w' := by
  obtain ⟨A, c, g, cs, h1, h2, h3⟩ := h
  exact ⟨A, c, g, cs, h1, h2.q, h3⟩
theorem iput_all (ea cr : Int) (A : Option Addr) (n c : Nat) (xs : List Pk) (x : Pk) (w : World) (h : Pks w w.heap.size A n xs) (hn : n ≤ 1099511627776) (hnc : n ≤ c) (hc : c ≤ maxLen) :
    Calls Try.prog 8 #[.agg #[.int .i64 ea, .int .i64 cr, .slice A n c], .agg #[.int .i64 x.wi, .int .i64 x.ti, .int .i64 x.la, .int .i64 x.si, .bool x.ky, .bool x.en]] w (PutAll ea cr xs x w) := by
  by_cases hr : rgOk ea cr xs
  · refine (irpO_any ea cr A n c xs x w h hnc hc hr).mono fun _ _ ⟨h1, h2⟩ => ?_
    by_cases hp : RpIn ea cr xs x
    · exact put_good hp (h1 hp)
    · exact put_bad hp (h2 hp)
  · exact (irp_no ea cr A n c xs x w h hn hr).mono fun _ _ h2 => put_bad (fun hp => hr hp.1) h2
theorem iputQ_all (ea cr : Int) (A : Option Addr) (n c : Nat) (xs : List Pk) (x : Pk) (w : World) (h : Pks w w.heap.size A n xs) (hn : n ≤ 1099511627776) (hnc : n ≤ c) (hc : c ≤ maxLen) :
    Calls Try.prog 8 #[.agg #[.int .i64 ea, .int .i64 cr, .slice A n c], .agg #[.int .i64 x.wi, .int .i64 x.ti, .int .i64 x.la, .int .i64 x.si, .bool x.ky, .bool x.en]] w (PutQ ea cr xs x w) :=
  (iput_all ea cr A n c xs x w h hn hnc hc).mono fun _ _ h => h.q
theorem sput_all (ea cr : Int) (A : Option Addr) (n c : Nat) (xs : List Pk) (x : Pk) (w : World) (h : Pks w w.heap.size A n xs) (hn : n ≤ 1099511627776) (hnc : n ≤ c) (hc : c ≤ maxLen) :
    Calls Try.prog 9 #[.agg #[.int .i64 ea, .int .i64 cr, .slice A n c], .agg #[.int .i64 x.wi, .int .i64 x.ti, .int .i64 x.la, .int .i64 x.si, .bool x.ky, .bool x.en]] w (PutQ ea cr xs x w) := by
  by_cases hr : rgOk ea cr xs
  · refine (srp_any ea cr A n c xs x w h hnc hc hr).mono fun _ _ ⟨h1, h2⟩ => ?_
    by_cases hp : RpIn ea cr xs x
    · exact put_goodQ hp (h1 hp)
    · exact (put_bad hp (h2 hp)).q
  · exact (srp_no ea cr A n c xs x w h hn hr).mono fun _ _ h2 => (put_bad (fun hp => hr hp.1) h2).q
theorem uY_le (ea cr : Int) (xs : List Pk) (x : Pk) : (uY ea cr xs x).length ≤ xs.length + 1 := by
  unfold uY
  split
  · unfold putL
    rw [List.length_drop, List.length_append]
    simp only [List.length_singleton]
    omega
  · simp
theorem MR.le_ {w : World} {N N' g : Nat} {A : Option Addr} {ys : List Pk} {cs : List Value} (h : MR w N A g ys cs) (hN : N' ≤ N) : MR w N' A g ys cs :=
  ⟨h.seq, fun hp => by obtain ⟨h1, h2, h3⟩ := h.row hp; exact ⟨h1, by omega, h3⟩⟩
theorem MR.but_ {X : Nat → Prop} {w w' : World} {N g : Nat} {A : Option Addr} {ys : List Pk} {cs : List Value} (h : MR w N A g ys cs) (hb : But X w w') (hg : 0 < ys.length → ¬ X g) : MR w' N A g ys cs := by
  rcases Nat.eq_zero_or_pos ys.length with h0 | h0
  · have : ys = [] := List.eq_nil_of_length_eq_zero h0
    subst this
    exact MR.nil_ _ _ _ _ _
  · obtain ⟨h1, h2, h3, h4, h5⟩ := h.row h0
    refine ⟨(Sl.but h.seq hb fun k o e => ?_).more hb.size, fun hp => ⟨h1, h2, by have := hb.size; omega, h4.but hb (hg h0), h5⟩⟩
    rw [h1] at e
    injection e with e
    injection e with e _
    subst e
    exact hg h0
theorem MR.of_row {w : World} {N g : Nat} {xs : List Pk} (h : Bk w g 27 (xs.flatMap Pk.c).toArray) (hN : N ≤ g) : MR w N (some ⟨g, 0, none⟩) g xs (xs.flatMap Pk.c) :=
  ⟨seq_rowP h rfl, fun _ => ⟨rfl, hN, h.lt, h, by rw [flat_lenP]; exact Nat.le_refl _⟩⟩
/-- Marks lie in block g. -/
def MK (w : World) (g m : Nat) (k0 : Int) : Prop := 0 < m → ∃ r, Bk w g 27 (mksP k0 m ++ r).toArray
theorem MK.below_ {w w' : World} {g m : Nat} {k0 : Int} (h : MK w g m k0) (hb : Below w.heap.size w w') : MK w' g m k0 := fun hp => by
  obtain ⟨r, hr⟩ := h hp
  exact ⟨r, hr.below hb hr.lt⟩
theorem MK.but_ {X : Nat → Prop} {w w' : World} {g m : Nat} {k0 : Int} (h : MK w g m k0) (hb : But X w w') (hg : 0 < m → ¬ X g) : MK w' g m k0 := fun hp => by
  obtain ⟨r, hr⟩ := h hp
  exact ⟨r, hr.but hb (hg hp)⟩
theorem MK.held {w : World} {g m : Nat} {k0 : Int} (h : MK w g m k0) : ∃ r, 0 < m → Bk w g 27 (mksP k0 m ++ r).toArray := by
  rcases Nat.eq_zero_or_pos m with h0 | h0
  · exact ⟨[], fun hp => absurd hp (by omega)⟩
  · obtain ⟨r, hr⟩ := h h0
    exact ⟨r, fun _ => hr⟩
theorem Pks.but_lt {X : Nat → Prop} {w w' : World} {B n : Nat} {A : Option Addr} {xs : List Pk} (h : Pks w B A n xs) (hb : But X w w') (hX : ∀ k, X k → B ≤ k) : Pks w' B A n xs :=
  ⟨h.1, fun hn => by
    obtain ⟨b, off, e, hlt, hc⟩ := h.2 hn
    exact ⟨b, off, e, hlt, fun j u hu => hb.cell (hc j u hu) fun hx => by have := hX b hx; omega⟩⟩
theorem markRg_MR {w : World} {N g : Nat} {A : Option Addr} {ys : List Pk} {cs : List Value} (e1 e2 : Int) (c : Nat) (k0 : Int) (h : MR w N A g ys cs) (hc : ys.length ≤ 2097152) (hk : 0 ≤ k0) (hk' : k0 ≤ 1099511627776) :
    Calls Try.prog 18 #[.agg #[.int .i64 e1, .int .i64 e2, .slice A ys.length c], .int .i64 k0] w fun e w' => e = .returned (.int .i64 (k0 + ys.length * 6)) ∧ MK w' g ys.length k0 ∧ But (fun k => k = g ∧ 0 < ys.length) w w' :=
  markRg_any e1 e2 A g ys.length c cs k0 w (fun hp => by obtain ⟨h1, _, _, h4, h5⟩ := h.row hp; exact ⟨h1, h4, h5⟩) hc hk hk'
theorem markW_MR {w : World} {N g : Nat} {A : Option Addr} {ys : List Pk} {cs : List Value} (c : Nat) (k0 : Int) (h : MR w N A g ys cs) (hc : ys.length ≤ 2097152) (hk : 0 ≤ k0) (hk' : k0 ≤ 1099511627776) :
    Calls Try.prog 36 #[.slice A ys.length c, .int .i64 k0] w fun e w' => e = .returned (.int .i64 (k0 + ys.length * 6)) ∧ MK w' g ys.length k0 ∧ But (fun k => k = g ∧ 0 < ys.length) w w' :=
  markPacketS_any A g ys.length c cs k0 w (fun hp => by obtain ⟨h1, _, _, h4, h5⟩ := h.row hp; exact ⟨h1, h4, h5⟩) hc hk hk'
theorem heldRg_MK {w : World} {g m : Nat} {A : Option Addr} (e1 e2 : Int) (c : Nat) (k0 : Int) (h : MK w g m k0) (hA : 0 < m → A = some ⟨g, 0, none⟩) (hc : m ≤ 2097152) (hk : 0 ≤ k0) (hk' : k0 ≤ 1099511627776) :
    Calls Try.prog 19 #[.agg #[.int .i64 e1, .int .i64 e2, .slice A m c], .int .i64 k0] w fun e w' => e = .returned (.int .i64 (k0 + m * 6)) ∧ Below w.heap.size w w' := by
  obtain ⟨r, hr⟩ := h.held
  exact heldRg_any e1 e2 A g m c r k0 w (fun hp => ⟨hA hp, hr hp⟩) hc hk hk'
theorem heldW_MK {w : World} {g m : Nat} {A : Option Addr} (c : Nat) (k0 : Int) (h : MK w g m k0) (hA : 0 < m → A = some ⟨g, 0, none⟩) (hc : m ≤ 2097152) (hk : 0 ≤ k0) (hk' : k0 ≤ 1099511627776) :
    Calls Try.prog 37 #[.slice A m c, .int .i64 k0] w fun e w' => e = .returned (.int .i64 (k0 + m * 6)) ∧ Below w.heap.size w w' := by
  obtain ⟨r, hr⟩ := h.held
  exact (heldPacketS_any A g m c r k0 w (fun hp => ⟨hA hp, hr hp⟩) hc hk hk').mono fun _ _ ⟨h1, h2⟩ => ⟨h1, h2 ▸ Below.refl _ _⟩
theorem eqRg_MR {w : World} {A A' : Option Addr} {ys : List Pk} (e1 e2 : Int) (c c' : Nat) (h : Pks w w.heap.size A ys.length ys) (h' : Pks w w.heap.size A' ys.length ys) (hc : ys.length ≤ 2097152) :
    Calls Try.prog 17 #[.agg #[.int .i64 e1, .int .i64 e2, .slice A ys.length c], .agg #[.int .i64 e1, .int .i64 e2, .slice A' ys.length c']] w fun e w' => e = .returned (.bool true) ∧ Below w.heap.size w w' :=
  eqRg_same e1 e2 A A' ys.length c c' w.heap.size ys w h h' (Nat.le_refl _) (by omega)
theorem toRg_MR (ea cr : Int) (A : Option Addr) (n c B : Nat) (xs : List Pk) (w : World) (h : Pks w B A n xs) (hB : B ≤ w.heap.size) (hn : n ≤ 2097152) :
    Calls Try.prog 15 #[.agg #[.int .i64 ea, .int .i64 cr, .slice A n c]] w fun e w' => ∃ g, e = .returned (.agg #[.int .i64 ea, .int .i64 cr, .slice (some ⟨g, 0, none⟩) n n]) ∧ MR w' w.heap.size (some ⟨g, 0, none⟩) g xs (xs.flatMap Pk.c) ∧ Below w.heap.size w w' :=
  (toRg_any ea cr A n c xs w (Sl.more h hB) hn).mono fun _ _ ⟨g, h1, h2, h3, h4⟩ => ⟨g, h1, MR.of_row h3 h2, h4⟩
end Go.Proofs.Ytjhppghkhfacaaa
