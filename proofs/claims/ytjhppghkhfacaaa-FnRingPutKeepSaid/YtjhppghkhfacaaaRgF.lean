/-
  Rings: what the laws' drawn rings are made of; equal rings are equal; the ring's oldest number and its packets.
  Conditions: as each theorem states them.
-/
import Derived.Laws.StructEq
import Derived.Deep.RegionHeld3
import Derived.Test.YtjhppghkhfacaaaRgI
import Derived.Test.YtjhppghkhfacaaaBut
import Derived.Outline
namespace Go.Proofs.Ytjhppghkhfacaaa
open Go.RowKit
set_option linter.unusedVariables false
set_option linter.unusedSimpArgs false

theorem Pks.step {w w' : World} {A : Option Addr} {n : Nat} {xs : List Pk} (h : Pks w w.heap.size A n xs) (hb : Below w.heap.size w w') : Pks w' w'.heap.size A n xs := (h.below hb).more hb.size
theorem Pks.bw {w : World} {A : Option Addr} {n : Nat} {xs : List Pk} (h : Pks w w.heap.size A n xs) (x : BW w.heap.size w) : Pks x.1 x.1.heap.size A n xs := (h.below x.2).more x.2.size
theorem Pks.none_ {w : World} {B : Nat} {A : Option Addr} : Pks w B A 0 [] := ⟨rfl, fun h => absurd h (by omega)⟩
/-- A block of three cells holds no packet. -/
theorem pks_far {w : World} {B b n : Nat} {A : Option Addr} {T : TypeId} {xs : List Pk} {c0 c1 c2 : Value} (h : Pks w B A n xs) (hk : Bk w b T #[c0, c1, c2]) : ∀ k o, A = some ⟨k, o, none⟩ → 0 < n → k ≠ b := by
  intro k o e hn e2
  subst e e2
  obtain ⟨b', off, e', _, hc⟩ := h.2 hn
  injection e' with e'
  injection e' with e1 e2
  subst e1 e2
  have hl := h.len
  obtain ⟨y, hy⟩ : ∃ y, xs[0]? = some y := ⟨_, List.getElem?_eq_getElem (by omega)⟩
  have h3 := flat_atP xs 0 3 (by omega)
  rw [hy] at h3
  have h4 := hc _ _ h3
  rw [hk.cell] at h4
  have h5 := (Array.getElem?_eq_some_iff.1 h4).1
  simp at h5
  omega
theorem Pks.store {w w' : World} {B b n : Nat} {A : Option Addr} {T : TypeId} {xs : List Pk} {c0 c1 c2 : Value} (h : Pks w B A n xs) (hk : Bk w b T #[c0, c1, c2]) (ho : Only b w w') : Pks w' B A n xs := by
  refine ⟨h.1, fun hn => ?_⟩
  obtain ⟨b', off, e, hlt, hc⟩ := h.2 hn
  exact ⟨b', off, e, hlt, fun j u hu => ho.cell (hc j u hu) (pks_far h hk b' off e hn)⟩
theorem Pks.but0 {X : Nat → Prop} {w w' : World} {B n : Nat} {A : Option Addr} {xs : List Pk} (h : Pks w B A n xs) (hb : But X w w') (hX : ∀ k o, A = some ⟨k, o, none⟩ → 0 < n → ¬ X k) : Pks w' B A n xs := by
  refine ⟨h.1, fun hn => ?_⟩
  obtain ⟨b', off, e, hlt, hc⟩ := h.2 hn
  exact ⟨b', off, e, hlt, fun j u hu => hb.cell (hc j u hu) (hX b' off e hn)⟩
theorem Pks.but_ {X : Nat → Prop} {w w' : World} {B n : Nat} {A : Option Addr} {xs : List Pk} (h : Pks w B A n xs) (hb : But X w w') (hX : ∀ k o, A = some ⟨k, o, none⟩ → ¬ X k) : Pks w' B A n xs := Sl.but h hb hX

/-- The fields of a ring whose packets lie in memory from block N on. -/
def RiF (d : Nat) (N : Nat) (a b u : Value) (w : World) : Prop := ∃ (ro co : Int) (A : Option Addr) (n c : Nat) (xs : List Pk), a = .int .i64 ro ∧ b = .int .i64 co ∧ u = .slice A n c ∧ n ≤ 8 ∧ n ≤ c ∧ c ≤ maxLen ∧ -(d : Int) ≤ co ∧ co ≤ 999999 + d ∧ Pks w w.heap.size A n xs ∧ Fr N A
/-- A ring in block b. -/
def RiB (T N : Nat) (w : World) (b : Nat) : Prop := ∃ v0 v1 v2, Bk w b T #[v0, v1, v2] ∧ RiF 0 N v0 v1 v2 w
theorem RiF.pk {d N N' : Nat} {a b u : Value} {w w' : World} (h : RiF d N a b u w) (hs : w.heap.size ≤ w'.heap.size) (hN : N' ≤ N) (hr : ∀ A n xs, Pks w w.heap.size A n xs → Fr N A → Pks w' w.heap.size A n xs) : RiF d N' a b u w' := by
  obtain ⟨ro, co, A, n, c, xs, h1, h2, h3, h4, h5, h6, h7, h8, h9, h10⟩ := h
  exact ⟨ro, co, A, n, c, xs, h1, h2, h3, h4, h5, h6, h7, h8, (hr A n xs h9 h10).more hs, h10.le hN⟩
theorem RiF.zero (N : Nat) (w : World) : RiF 0 N (.int .i64 0) (.int .i64 0) (.slice none 0 0) w := ⟨0, 0, none, 0, 0, [], rfl, rfl, rfl, by omega, by omega, by unfold maxLen; omega, by simp, by simp, Pks.none_, fun b o s e => by cases e⟩
/-- Below block N only block g has turned; from N on packets are kept, and rings stay rings. -/
structure StR (T N g : Nat) (w w' : World) : Prop where
  but : But (fun k => k = g ∨ N ≤ k) w w'
  rb : ∀ b, N ≤ b → RiB T N w b → RiB T N w' b
  pk : ∀ A n xs, Pks w w.heap.size A n xs → Fr N A → Pks w' w.heap.size A n xs
theorem RiF.st {d T N g : Nat} {a b u : Value} {w w' : World} (h : RiF d N a b u w) (hs : StR T N g w w') : RiF d N a b u w' := h.pk hs.but.size (Nat.le_refl _) hs.pk
theorem StR.refl (T N g : Nat) (w : World) : StR T N g w w := ⟨But.refl _ _, fun _ _ h => h, fun _ _ _ h _ => h⟩
theorem Fr.lt {N g : Nat} {A : Option Addr} (h : Fr N A) (hg : g < N) : ∀ k o, A = some ⟨k, o, none⟩ → ¬ k = g := fun k o e he => by have := h k o none e; omega
theorem StR.trans {T N g : Nat} {a b c : World} (h : StR T N g a b) (k : StR T N g b c) : StR T N g a c :=
  ⟨h.but.trans k.but, fun x hx hp => k.rb x hx (h.rb x hx hp), fun A n xs hr hf => by
    refine ⟨hr.1, fun hn => ?_⟩
    have h2 := k.pk A n xs ((h.pk A n xs hr hf).more h.but.size) hf
    obtain ⟨b1, o1, e1, hlt, _⟩ := hr.2 hn
    obtain ⟨b2, o2, e2, _, hc⟩ := h2.2 hn
    rw [e1] at e2
    injection e2 with e2
    injection e2 with e3 e4
    subst e3 e4
    exact ⟨b1, o1, e1, hlt, hc⟩⟩
theorem StR.of_only {T N g : Nat} {w w' : World} (h : Only g w w') (hg : g < N) : StR T N g w w' :=
  have hp : ∀ A n xs, Pks w w.heap.size A n xs → Fr N A → Pks w' w.heap.size A n xs := fun A n xs hr hf => hr.but_ (But.of_only (X := fun k => k = g) h rfl) (hf.lt hg)
  ⟨But.of_only h (.inl rfl), fun b hb ⟨v0, v1, v2, h1, h2⟩ => ⟨v0, v1, v2, h1.only h (by omega), h2.pk h.size (Nat.le_refl _) hp⟩, hp⟩
theorem StR.of_new {T N g : Nat} {w w' : World} (h : Below w.heap.size w w') : StR T N g w w' :=
  have hp : ∀ A n xs, Pks w w.heap.size A n xs → Fr N A → Pks w' w.heap.size A n xs := fun A n xs hr hf => hr.below h
  ⟨But.of_new h, fun b hb ⟨v0, v1, v2, h1, h2⟩ => ⟨v0, v1, v2, h1.below h h1.lt, h2.pk h.size (Nat.le_refl _) hp⟩, hp⟩
theorem StR.alloc {T N g : Nat} {a w : World} (h : StR T N g a w) (o : Obj) : StR T N g a (w.alloc o) := h.trans (StR.of_new ((Below.refl _ _).alloc (Nat.le_refl _) _))
theorem StR.drew {T N g : Nat} {a w : World} (h : StR T N g a w) : StR T N g a w.drew := ⟨h.but.drew, fun b hb hp => h.rb b hb hp, fun A n xs hr hf => h.pk A n xs hr hf⟩
theorem StR.store {T N g b : Nat} {w : World} {c0 c1 c2 v0 v1 v2 : Value} (hb : N ≤ b) (hk : Bk w b T #[c0, c1, c2]) (hv : RiF 0 N v0 v1 v2 w) : StR T N g w (((w.setCell ⟨b, 0, none⟩ v0).setCell ⟨b, 1, none⟩ v1).setCell ⟨b, 2, none⟩ v2) := by
  have hO : Only b w (((w.setCell ⟨b, 0, none⟩ v0).setCell ⟨b, 1, none⟩ v1).setCell ⟨b, 2, none⟩ v2) := (((Only.refl b w).setCell (p := ⟨b, 0, none⟩) (.inl rfl) _).setCell (p := ⟨b, 1, none⟩) (.inl rfl) _).setCell (p := ⟨b, 2, none⟩) (.inl rfl) _
  have hrow : ∀ A n xs, Pks w w.heap.size A n xs → Fr N A → Pks (((w.setCell ⟨b, 0, none⟩ v0).setCell ⟨b, 1, none⟩ v1).setCell ⟨b, 2, none⟩ v2) w.heap.size A n xs := fun A n xs hr _ => hr.store hk hO
  refine ⟨But.of_only hO (.inr hb), fun b' hb' hp => ?_, hrow⟩
  by_cases e : b' = b
  · subst e
    refine ⟨v0, v1, v2, ?_, hv.pk hO.size (Nat.le_refl _) hrow⟩
    have := ((hk.set_ 0 v0).set_ 1 v1).set_ 2 v2
    simpa using this
  · obtain ⟨u0, u1, u2, h1, h2⟩ := hp
    exact ⟨u0, u1, u2, h1.only hO e, h2.pk hO.size (Nat.le_refl _) hrow⟩

/-- A ring and whether, behind a put of the reference. -/
def RgAny (w : World) (y : Ending) (w' : World) : Prop := ∃ a b u r, y = .returned (.tuple #[.agg #[a, b, u], .bool r]) ∧ RiF 0 w.heap.size a b u w' ∧ Below w.heap.size w w'
theorem srp_all (ro co : Int) (A : Option Addr) (n c : Nat) (xs : List Pk) (x : Pk) (w : World) (h : Pks w w.heap.size A n xs) (hn : n ≤ 1099511627776) (hnc : n ≤ c) (hc : c ≤ maxLen) :
    Calls Try.prog 9 #[.agg #[.int .i64 ro, .int .i64 co, .slice A n c], .agg #[.int .i64 x.wi, .int .i64 x.ti, .int .i64 x.la, .int .i64 x.si, .bool x.ky, .bool x.en]] w (RgAny w) := by
  have bad : ∀ e w', RgBad w e w' → RgAny w e w' := fun e w' ⟨h1, h2⟩ => ⟨_, _, _, _, h1, RiF.zero _ _, h2⟩
  by_cases hok : rgOk ro co xs
  · refine (srp_any ro co A n c xs x w h hnc hc hok).mono ?_
    rintro e w' ⟨h1, h2⟩
    by_cases hin : RpIn ro co xs x
    · obtain ⟨v, rfl, ⟨A', c', rfl, h3, h4, h5, h6⟩, hb⟩ := h1 hin
      have hp := put_ok hin
      have hl : (putL ro xs x).length ≤ 8 := by have := hp.2.2.2.2.2; have := hp.2.1; omega
      exact ⟨_, _, _, _, rfl, ⟨ro, co + 1, A', _, c', _, rfl, rfl, rfl, hl, h3, h4, by have := hp.2.2.1; omega, by have := hp.2.2.2.1; omega, h5, h6⟩, hb⟩
    · exact bad _ _ (h2 hin)
  · exact (srp_no ro co A n c xs x w h hn hok).mono bad

theorem irp_bad (ro co : Int) (A : Option Addr) (n c : Nat) (xs : List Pk) (x : Pk) (w : World) (h : Pks w w.heap.size A n xs) (hn : n ≤ 1099511627776) (hnc : n ≤ c) (hc : c ≤ maxLen) (hno : ¬ RpIn ro co xs x) :
    Calls Try.prog 8 #[.agg #[.int .i64 ro, .int .i64 co, .slice A n c], .agg #[.int .i64 x.wi, .int .i64 x.ti, .int .i64 x.la, .int .i64 x.si, .bool x.ky, .bool x.en]] w (RgBad w) := by
  by_cases hok : rgOk ro co xs
  · exact (irp_any ro co A n c xs x w h hnc hc hok).mono fun _ _ h => h.2 hno
  · exact irp_no ro co A n c xs x w h hn hok
theorem srp_bad (ro co : Int) (A : Option Addr) (n c : Nat) (xs : List Pk) (x : Pk) (w : World) (h : Pks w w.heap.size A n xs) (hn : n ≤ 1099511627776) (hnc : n ≤ c) (hc : c ≤ maxLen) (hno : ¬ RpIn ro co xs x) :
    Calls Try.prog 9 #[.agg #[.int .i64 ro, .int .i64 co, .slice A n c], .agg #[.int .i64 x.wi, .int .i64 x.ti, .int .i64 x.la, .int .i64 x.si, .bool x.ky, .bool x.en]] w (RgBad w) := by
  by_cases hok : rgOk ro co xs
  · exact (srp_any ro co A n c xs x w h hnc hc hok).mono fun _ _ h => h.2 hno
  · exact srp_no ro co A n c xs x w h hn hok
theorem putL_at {r : Nat} {xs : List Pk} {p : Pk} {n m i : Nat} (hn : xs.length = n) (hm : (putL (r : Int) xs p).length = m) (hr : 1 ≤ r) (hi : i < m) : (putL (r : Int) xs p)[i]? = (xs ++ [p])[n + 1 - m + i]? := by
  unfold putL at *
  rw [List.length_drop, List.length_append] at hm
  rw [List.getElem?_drop]
  congr 1
  simp only [List.length_cons, List.length_nil] at hm
  omega
theorem putL_last {r : Nat} {xs : List Pk} {p : Pk} {n m : Nat} (hn : xs.length = n) (hm : (putL (r : Int) xs p).length = m) (hr : 1 ≤ r) (h1 : 1 ≤ m) (h2 : m ≤ n + 1) : (putL (r : Int) xs p)[m - 1]? = some p := by
  rw [putL_at hn hm hr (by omega), List.getElem?_append_right (by omega), show n + 1 - m + (m - 1) - xs.length = 0 by omega]
  rfl

set_option maxHeartbeats 2000000 in
theorem sameK_same (A A' : Option Addr) (n c c' B : Nat) (xs : List Pk) (w : World) (h : Pks w B A n xs) (h' : Pks w B A' n xs) (hn : n ≤ 1099511627776) :
    Calls Try.prog 31 #[.slice A n c, .slice A' n c'] w fun e w' => e = .returned (.bool true) ∧ ∃ m, w' = w.drewN m := by
  have HL := Lib.hid h.len
  have e0 : ((n : Int) != n) = false := by simp
  go_enter Try.func31, Try.ntmps31
  go_wp2
  go_loopw [5] (fun i wr => ∃ k m : Nat, k ≤ n ∧ i = .int .i64 k ∧ wr = w.drewN m) (fun i _ => n - (intOf i).toNat)
  case atStart => exact ⟨0, 0, by omega, rfl, rfl⟩
  case round =>
    obtain ⟨k, m, hk, rfl, rfl⟩ := hrel
    by_cases hlt : k < n
    · obtain ⟨b, off, rfl, hbB, hcell⟩ := h.addr (by omega)
      obtain ⟨b', off', rfl, hbB', hcell'⟩ := h'.addr (by omega)
      obtain ⟨x, hx⟩ : ∃ x, xs[k]? = some x := ⟨_, List.getElem?_eq_getElem (by rw [HL.out]; exact hlt)⟩
      obtain ⟨c0, c1, c2, c3, c4, c5⟩ := hcell k x hx
      obtain ⟨d0, d1, d2, d3, d4, d5⟩ := hcell' k x hx
      have hk0 : (0 : Int) ≤ (k : Int) := Int.natCast_nonneg _
      have hk1 : (k : Int) < (n : Int) := by omega
      clear hcell hcell' hx
      go_wp2
      go_quiet (fail)
      go_wp2
      go_roundw
      case rel => exact ⟨k + 1, _, by omega, by go_num, rfl⟩
      case measure => simp [intOf]; omega
    · go_wp2
      go_ret
      exact ⟨rfl, _, rfl⟩
theorem sameK_below (A A' : Option Addr) (n c c' B : Nat) (xs : List Pk) (w : World) (h : Pks w B A n xs) (h' : Pks w B A' n xs) (hn : n ≤ 1099511627776) :
    Calls Try.prog 31 #[.slice A n c, .slice A' n c'] w fun e w' => e = .returned (.bool true) ∧ Below w.heap.size w w' :=
  (sameK_same A A' n c c' B xs w h h' hn).mono fun _ _ ⟨h1, m, h2⟩ => ⟨h1, h2 ▸ Below.drewN' (Below.refl _ _) m⟩

set_option maxHeartbeats 2000000 in
theorem sameRg_same (ro co : Int) (A A' : Option Addr) (n c c' B : Nat) (xs : List Pk) (w : World) (h : Pks w B A n xs) (h' : Pks w B A' n xs) (hB : B ≤ w.heap.size) (hn : n ≤ 1099511627776) :
    Calls Try.prog 10 #[.agg #[.int .i64 ro, .int .i64 co, .slice A n c], .agg #[.int .i64 ro, .int .i64 co, .slice A' n c']] w fun e w' => e = .returned (.bool true) ∧ Below w.heap.size w w' := by
  have hb2 : Below w.heap.size w ((w.alloc (.cells #[.int .i64 ro, .int .i64 co, .slice A n c] 25)).alloc (.cells #[.int .i64 ro, .int .i64 co, .slice A' n c'] 25)) := (by repeat (first | exact Below.refl _ _ | assumption | refine Below.setCell ?_ (by first | omega | (simp; done) | (simp; omega)) _ | refine Below.alloc ?_ (by first | omega | (simp; done) | (simp; omega)) _ | refine Below.drew ?_ | refine Below.drewN' ?_ _ | refine Below.trans ?_ (Below.mono (by assumption) (by first | omega | (simp; done) | (simp; omega)))))
  replace h := (h.below (hb2.mono hB)).more (B' := ((w.alloc (.cells #[.int .i64 ro, .int .i64 co, .slice A n c] 25)).alloc (.cells #[.int .i64 ro, .int .i64 co, .slice A' n c'] 25)).heap.size) (by simp; omega)
  replace h' := (h'.below (hb2.mono hB)).more (B' := ((w.alloc (.cells #[.int .i64 ro, .int .i64 co, .slice A n c] 25)).alloc (.cells #[.int .i64 ro, .int .i64 co, .slice A' n c'] 25)).heap.size) (by simp; omega)
  have HS := Lib.hid (sameK_same A A' n c c' _ xs _ h h' hn)
  clear h h'
  go_enter Try.func10, Try.ntmps10
  go_wp2_with fail
  refine HS.out.mono ?_
  rintro e w' ⟨rfl, m, rfl⟩
  go_wp2
  go_ret
  exact ⟨rfl, Below.drewN' hb2 _⟩

theorem iold_any (ro co : Int) (A : Option Addr) (n c : Nat) (xs : List Pk) (w : World) (h : Pks w w.heap.size A n xs) (hn : n ≤ 1099511627776) (hok : rgOk ro co xs) :
    Calls Try.prog 11 #[.agg #[.int .i64 ro, .int .i64 co, .slice A n c]] w fun e w' => e = .returned (.int .i64 (co - n)) ∧ Below w.heap.size w w' := by
  have hP := Bk.new w 25 #[.int .i64 ro, .int .i64 co, .slice A n c]
  have h8 : (n : Int) ≤ 8 := by have := hok.2.2.2.2.2; rw [h.len] at this; have := hok.2.1; omega
  have h0 := hok.2.2.1
  have h9 := hok.2.2.2.1
  have HV := Lib.hid (fun (w' : World) (hw : Below w.heap.size w w') => by
    have := irv_any ro co A n c xs w' ((h.below hw).more hw.size) hn
    rw [rgB_true.2 hok] at this
    exact this)
  clear h hok
  go_enter Try.func11, Try.ntmps11
  go_wp2_with fail
  refine (HV.out _ (by repeat (first | exact Below.refl _ _ | assumption | refine Below.setCell ?_ (by first | omega | (simp; done) | (simp; omega)) _ | refine Below.alloc ?_ (by first | omega | (simp; done) | (simp; omega)) _ | refine Below.drew ?_ | refine Below.drewN' ?_ _ | refine Below.trans ?_ (Below.mono (by assumption) (by first | omega | (simp; done) | (simp; omega)))))).mono ?_
  rintro y w1 ⟨rfl, hb1⟩
  replace hP := hP.below hb1 (by first | omega | exact hP.lt | (simp; done) | (simp; omega))
  (try clear hP_c0); (try clear hP_f0)
  (try clear hP_c1); (try clear hP_f1)
  (try clear hP_c2); (try clear hP_f2)
  (try clear hP_lt)
  have hP_lt := hP.lt; (try simp only [World.size_alloc] at hP_lt)
  have hP_c0 := hP.cell 0; have hP_f0 := hP.frozen 0
  have hP_c1 := hP.cell 1; have hP_f1 := hP.frozen 1
  have hP_c2 := hP.cell 2; have hP_f2 := hP.frozen 2
  simp only [List.getElem?_toArray, List.getElem?_cons_zero, List.getElem?_cons_succ] at hP_c0 hP_c1 hP_c2
  have hB : Below w.heap.size w w1 := (by repeat (first | exact Below.refl _ _ | assumption | refine Below.setCell ?_ (by first | omega | (simp; done) | (simp; omega)) _ | refine Below.alloc ?_ (by first | omega | (simp; done) | (simp; omega)) _ | refine Below.drew ?_ | refine Below.drewN' ?_ _ | refine Below.trans ?_ (Below.mono (by assumption) (by first | omega | (simp; done) | (simp; omega)))))
  clear hb1
  have wr1 : IntKind.i64.wrap (co - (n : Int)) = co - n := by rw [IntKind.wrap_i64]; omega
  go_wp2
  go_ret
  exact ⟨rfl, (by repeat (first | exact Below.refl _ _ | assumption | refine Below.setCell ?_ (by first | omega | (simp; done) | (simp; omega)) _ | refine Below.alloc ?_ (by first | omega | (simp; done) | (simp; omega)) _ | refine Below.drew ?_ | refine Below.drewN' ?_ _ | refine Below.trans ?_ (Below.mono (by assumption) (by first | omega | (simp; done) | (simp; omega)))))⟩
end Go.Proofs.Ytjhppghkhfacaaa
