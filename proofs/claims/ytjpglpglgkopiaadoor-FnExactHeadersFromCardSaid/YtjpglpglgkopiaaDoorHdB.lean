/-
  The headers of packets: what is written, by the program and by the reference.
  Conditions: as each theorem states them.
-/
import Derived.StillTailTactics
import Derived.Test.YtjpglpglgkopiaaDoorLib
import Derived.Test.YtjpglpglgkopiaaDoorOwn
import Derived.Test.YtjpglpglgkopiaaDoorBut
import Derived.Test.YtjpglpglgkopiaaDoorApp
import Derived.Test.YtjpglpglgkopiaaDoorPkV
import Derived.Test.YtjpglpglgkopiaaDoorWideN
import Derived.Test.YtjpglpglgkopiaaDoorHdP
import Derived.Outline
namespace Go.Proofs.YtjpglpglgkopiaaDoor
open Go.RowKit
set_option linter.unusedVariables false
set_option linter.unusedSimpArgs false

theorem int_info : (Tryd.prog.info? 3).map (fun i => (i.zero, i.size, i.bytes)) = some (some (.int .i64 0), 1, 8) := by kernel_rfl
theorem one_i (z : Int) : ∀ u ∈ [Value.int .i64 z], u.oneCell' = true := by intro u hu; simp at hu; subst hu; rfl
theorem one_is (zs : List Int) : ∀ u ∈ zs.map (Value.int .i64), u.oneCell' = true := by
  intro u hu
  obtain ⟨z, -, rfl⟩ := List.mem_map.1 hu
  rfl
/-- Numbers that are read off a row of the call's own. -/
theorem ints_own {w : World} {base n : Nat} {A : Option Addr} {c : Nat} {zs : List Int} (h : w.ownsRow base 3 1 (.slice A n c) n (zs.map (Value.int .i64))) : Ints w w.heap.size A n zs := Sl.of_own h

/-- A row of the call's own has grown: only its own block, and new ones, have turned; it lies in its block still, or in a new one. -/
structure Gr (v : Value) (w : World) (v' : Value) (w' : World) : Prop where
  but : But (fun k => v.ownBlock = some k) w w'
  blk : ∀ k, v'.ownBlock = some k → v.ownBlock = some k ∨ w.heap.size ≤ k
theorem Gr.refl (v : Value) (w : World) : Gr v w v w := ⟨But.refl _ _, fun _ h => .inl h⟩
theorem Gr.trans {u v x : Value} {a b c : World} (h : Gr u a v b) (k : Gr v b x c) : Gr u a x c :=
  ⟨⟨k.but.os.trans h.but.os, k.but.tape.trans h.but.tape, k.but.output.trans h.but.output, Nat.le_trans h.but.size k.but.size, fun i hi hn => (k.but.block i (Nat.lt_of_lt_of_le hi h.but.size) fun hv => by
      rcases h.blk i hv with h1 | h1
      · exact hn h1
      · omega).trans (h.but.block i hi hn)⟩,
    fun i hi => by
      rcases k.blk i hi with h1 | h1
      · exact h.blk i h1
      · exact .inr (Nat.le_trans h.but.size h1)⟩
theorem Gr.of_below {v : Value} {a b : World} (h : Below a.heap.size a b) : Gr v a v b := ⟨But.of_new h, fun _ h => .inl h⟩
theorem Gr.alloc {u v : Value} {a b : World} (h : Gr u a v b) (o : Obj) : Gr u a v (b.alloc o) := h.trans (Gr.of_below ((Below.refl _ _).alloc (Nat.le_refl _) _))
theorem Gr.drew {u v : Value} {a b : World} (h : Gr u a v b) : Gr u a v b.drew := ⟨h.but.drew, h.blk⟩
theorem Gr.app {v v' : Value} {w w' : World} (hg : w.grownBy w' v.ownBlock) (hat : v'.ownBlock = v.ownBlock ∨ v'.ownBlock = some w.heap.size) : Gr v w v' w' :=
  ⟨But.of_grown hg fun k h => h, fun k hk => by
    rcases hat with h | h
    · exact .inl (h ▸ hk)
    · rw [h] at hk; injection hk with hk; exact .inr (by omega)⟩
theorem Gr.below {base size n : Nat} {T : TypeId} {v v' : Value} {xs : List Value} {w w' : World} (h : Gr v w v' w') (hown : w.ownsRow base T size v n xs) (hb : base ≤ w.heap.size) : Below base w w' :=
  h.but.below (fun k hk => (hown.lt k hk).1) hb
theorem Bk.gr {v v' : Value} {w w' : World} {g : Nat} {t : TypeId} {cs : Array Value} (h : Bk w g t cs) (hg : Gr v w v' w') (hne : ∀ k, v.ownBlock = some k → k ≠ g) : Bk w' g t cs :=
  h.but hg.but fun he => hne g he rfl
/-- A block that was there and is not the row's own is not so behind it. -/
theorem Gr.far {v v' : Value} {w w' : World} {g : Nat} (hg : Gr v w v' w') (hne : ∀ k, v.ownBlock = some k → k ≠ g) (hl : g < w.heap.size) : ∀ k, v'.ownBlock = some k → k ≠ g := fun k hk e => by
  rcases hg.blk k hk with h | h
  · exact hne k h e
  · omega

theorem own_snoc {w : World} {base size n : Nat} {T : TypeId} {v : Value} {zs : List Int} {z : Int} (h : w.ownsRow base T size v n (zs.map (Value.int .i64) ++ [Value.int .i64 z])) : w.ownsRow base T size v n ((zs ++ [z]).map (Value.int .i64)) := by
  rw [List.map_append]; exact h
/-- Bytes were appended. -/
def AppN (base m k c : Nat) (A : Option Addr) (zs ls : List Int) (w : World) (e : Ending) (w' : World) : Prop := ∃ A' c', e = .returned (.slice A' (m + k) c') ∧ w'.ownsRow base 3 1 (.slice A' (m + k) c') (m + k) ((zs ++ ls).map (Value.int .i64)) ∧ Gr (.slice A m c) w (.slice A' (m + k) c') w'

theorem tmod_at {n : Int} (h : 0 ≤ n) (d : Int) : n.tmod d = n % d := Int.tmod_eq_emod_of_nonneg h

/-- The bytes of a number. -/
def nB (n : Int) : Nat → List Int
  | 2 => [n / 256 % 256, n % 256]
  | _ => [n / 65536 % 256, n / 256 % 256, n % 256]
/-- The places of the bytes. -/
def shB : Nat → Nat → Int
  | 2, i => 8 - 8 * i
  | _, i => 16 - 8 * i

set_option maxHeartbeats 2000000 in
set_option maxRecDepth 100000 in
theorem apn_any (base m k c : Nat) (A : Option Addr) (zs : List Int) (n : Int) (w : World) (hown : w.ownsRow base 3 1 (.slice A m c) m (zs.map (Value.int .i64))) (hb : base ≤ w.heap.size) (hm : m ≤ 1000000) (h0 : 0 ≤ n) (h1 : n ≤ 16777215) (hk : k = 2 ∨ k = 3) :
    Calls Tryd.prog 60 #[.slice A m c, .int .i64 n, .int .i64 k] w (AppN base m k c A zs (nB n k) w) := by
  obtain ⟨i0, hi0, hz0, hz1, hz2⟩ := info_parts int_info
  have HO := Lib.hid hown
  clear hown
  have hsh : (8 : Int) * ((k : Int) - 1) = shB k 0 := by rcases hk with rfl | rfl <;> rfl
  have hlen : (nB n k).length = k := by rcases hk with rfl | rfl <;> rfl
  have HL := Lib.hid hlen
  have HSH := Lib.hid hsh
  clear hlen hsh
  go_enter Tryd.func60, Tryd.ntmps60
  go_wp2
  go_loopw [0, 7] (fun v s wr => ∃ (i : Nat) (A' : Option Addr) (c' : Nat), i ≤ k ∧ s = .int .i64 (shB k i) ∧ v = .slice A' (m + i) c' ∧ wr.ownsRow base 3 1 (.slice A' (m + i) c') (m + i) ((zs ++ (nB n k).take i).map (Value.int .i64)) ∧ Gr (.slice A m c) w (.slice A' (m + i) c') wr) (fun _ s _ => (intOf s + 8).toNat)
  case atStart => exact ⟨0, A, c, by omega, by first | rw [HSH.out] | (rw [← HSH.out]), rfl, by simpa using HO.out, Gr.refl _ _⟩
  case round =>
    obtain ⟨i, A', c', hi, rfl, rfl, hown, hB⟩ := hrel
    have hbs := hB.but.size
    have hcase : (i = k ∧ shB k i = -8) ∨ ∃ (s z : Int), i < k ∧ shB k i = s ∧ ((s = 0 ∧ z = n % 256) ∨ (s = 8 ∧ z = n / 256 % 256) ∨ (s = 16 ∧ z = n / 65536 % 256)) ∧ (nB n k).take (i + 1) = (nB n k).take i ++ [z] ∧ shB k (i + 1) = s - 8 := by
      rcases hk with rfl | rfl
      · rcases (show i = 0 ∨ i = 1 ∨ i = 2 by omega) with rfl | rfl | rfl
        · exact .inr ⟨8, _, by omega, rfl, .inr (.inl ⟨rfl, rfl⟩), rfl, rfl⟩
        · exact .inr ⟨0, _, by omega, rfl, .inl ⟨rfl, rfl⟩, rfl, rfl⟩
        · exact .inl ⟨rfl, rfl⟩
      · rcases (show i = 0 ∨ i = 1 ∨ i = 2 ∨ i = 3 by omega) with rfl | rfl | rfl | rfl
        · exact .inr ⟨16, _, by omega, rfl, .inr (.inr ⟨rfl, rfl⟩), rfl, rfl⟩
        · exact .inr ⟨8, _, by omega, rfl, .inr (.inl ⟨rfl, rfl⟩), rfl, rfl⟩
        · exact .inr ⟨0, _, by omega, rfl, .inl ⟨rfl, rfl⟩, rfl, rfl⟩
        · exact .inl ⟨rfl, rfl⟩
    rcases hcase with ⟨rfl, hs⟩ | ⟨s, z, hlt, hs, hz, htk, hs2⟩
    · rw [hs]
      have HOW := Lib.hid (show wr.ownsRow base 3 1 (.slice A' (m + i) c') (m + i) ((zs ++ nB n i).map (Value.int .i64)) by rwa [List.take_of_length_le (by rw [HL.out]; exact Nat.le_refl _)] at hown)
      clear hown hs hi
      go_wp2
      go_ret
      exact ⟨A', c', rfl, HOW.out, hB⟩
    · rw [hs]
      have HS2 := Lib.hid hs2
      have HTK := Lib.hid htk
      have HOW := Lib.hid hown
      have HNB := Lib.hid (show Sl (wr.alloc (.cells #[.int .i64 z] 3)) (wr.heap.size + 1) 1 (some ⟨wr.heap.size, 0, none⟩) 1 [Value.int .i64 z] from ⟨rfl, fun _ => ⟨wr.heap.size, 0, rfl, by omega, fun j u hu => by
        rw [Nat.zero_add, (Bk.new wr 3 #[.int .i64 z]).cell j]; simpa using hu⟩⟩)
      clear hown hs hs2 htk
      rcases hz with ⟨rfl, rfl⟩ | ⟨rfl, rfl⟩ | ⟨rfl, rfl⟩
      all_goals
        go_wp2_with (at_builtin; refine wpList_app _ rfl _ _ 22 rfl base 3 i0 (.int .i64 0) 1 8 Tryd.underlying22 hi0 hz0 hz1 hz2 rfl (by omega) _ (m + i) _ rfl (HOW.out.alloc _) (wr.heap.size + 1) (some ⟨wr.heap.size, 0, none⟩) 1 1 _ rfl HNB.out (one_i _) (by unfold maxLen; omega) (by omega) (by simp; omega) ?_; intro v2 w3 hown2 hgrow hat)
        obtain ⟨A2, c2, rfl, -, -, -⟩ := own_shape hown2
        have hB3 := (hB.alloc (.cells _ _)).trans (Gr.app hgrow hat)
        have HO3 := Lib.hid (show w3.ownsRow base 3 1 (.slice A2 (m + (i + 1)) c2) (m + (i + 1)) ((zs ++ (nB n k).take (i + 1)).map (Value.int .i64)) by
          rw [HTK.out, ← List.append_assoc, List.map_append]; exact hown2)
        clear hown2 hgrow hat
        go_wp2
        go_roundw
        case rel => exact ⟨i + 1, A2, c2, by omega, by rw [HS2.out]; rfl, rfl, HO3.out, hB3⟩
        case measure => simp [intOf]

set_option maxHeartbeats 2000000 in
theorem serialOf_any (wi : Int) (h0 : 0 ≤ wi) (h1 : wi ≤ 999999) (w : World) :
    Calls Tryd.prog 61 #[.int .i64 wi] w fun e w' => e = .returned (.int .i64 (wi % 65536)) ∧ w = w' := by
  go_enter Tryd.func61, Tryd.ntmps61
  go_wp2
  go_ret
  exact ⟨rfl, rfl⟩

theorem hB_app (x : Pk) (h : pkOk x) : nB (x.wi % 65536) 2 ++ nB x.ti 3 ++ [x.la + (if x.ky then 4 else 0) + (if x.en then 8 else 0)] ++ nB x.si 2 = hB x := by
  obtain ⟨p1, p2, p3, p4, p5, p6, p7, p8⟩ := h
  have e0 : x.wi % 65536 / 256 % 256 = x.wi % 65536 / 256 := by omega
  have e2 : x.ti / 65536 % 256 = x.ti / 65536 := by omega
  have e6 : x.si / 256 % 256 = x.si / 256 := by omega
  simp only [nB, hB, List.cons_append, List.nil_append, e0, e2, e6]

/-- A struct that was boxed. -/
theorem pk_flags {x : Pk} (h : pkOk x) : 0 ≤ x.la + (if x.ky then 4 else 0) + (if x.en then 8 else 0) ∧ x.la + (if x.ky then 4 else 0) + (if x.en then 8 else 0) ≤ 14 := by
  obtain ⟨p1, p2, p3, p4, p5, p6, p7, p8⟩ := h
  cases x.ky <;> cases x.en <;> simp <;> omega

set_option maxHeartbeats 4000000 in
set_option maxRecDepth 100000 in
theorem aph_any (base m c : Nat) (A : Option Addr) (zs : List Int) (x : Pk) (w : World) (hown : w.ownsRow base 3 1 (.slice A m c) m (zs.map (Value.int .i64))) (hb : base ≤ w.heap.size) (hm : m ≤ 900000) (hx : pkOk x) :
    Calls Tryd.prog 43 #[.slice A m c, .agg #[.int .i64 x.wi, .int .i64 x.ti, .int .i64 x.la, .int .i64 x.si, .bool x.ky, .bool x.en]] w (AppN base m 8 c A zs (hB x) w) := by
  obtain ⟨i0, hi0, hz0, hz1, hz2⟩ := info_parts int_info
  have HBX := Lib.hid (hB_app x hx)
  obtain ⟨p1, p2, p3, p4, p5, p6, p7, p8⟩ := hx
  obtain ⟨wi, ti, la, si, ky, en⟩ := x
  dsimp only at *
  obtain ⟨sr, hsr⟩ : ∃ sr, wi % 65536 = sr := ⟨_, rfl⟩
  have hs0 : 0 ≤ sr ∧ sr ≤ 65535 := by omega
  have HSR := Lib.hid hsr
  have hp := Bk.new w 24 #[.int .i64 wi, .int .i64 ti, .int .i64 la, .int .i64 si, .bool ky, .bool en]
  have HO := Lib.hid (show (w.alloc (.cells #[.int .i64 wi, .int .i64 ti, .int .i64 la, .int .i64 si, .bool ky, .bool en] 24)).ownsRow base 3 1 (.slice A m c) m (zs.map (Value.int .i64)) from hown.alloc _)
  have hG0 : Gr (.slice A m c) w (.slice A m c) (w.alloc (.cells #[.int .i64 wi, .int .i64 ti, .int .i64 la, .int .i64 si, .bool ky, .bool en] 24)) := (Gr.refl _ _).alloc _
  have hne0 : ∀ k, (Value.slice A m c).ownBlock = some k → k ≠ w.heap.size := fun k hk => by have := (hown.lt k hk).2; omega
  obtain ⟨w0, hw0⟩ : ∃ w0, w.alloc (.cells #[.int .i64 wi, .int .i64 ti, .int .i64 la, .int .i64 si, .bool ky, .bool en] 24) = w0 := ⟨_, rfl⟩
  have hwl : w.heap.size < w0.heap.size := by rw [← hw0]; simp
  rw [hw0] at hp HO hG0
  have HW0 := Lib.hid hw0
  have HG0 := Lib.hid hG0
  have HP := Lib.hid hp
  have HN0 := Lib.hid hne0
  clear hown hsr hp hw0 hG0 hne0
  have hbase : base ≤ w0.heap.size := by omega
  cases ky <;> cases en
  all_goals
    have hw0 := HW0.out
    have hp := HP.out
    have HBY := Lib.hid HBX.out
    simp only [Bool.false_eq_true, if_false, if_true, reduceIte, Int.add_zero, HSR.out] at HBY
    (try clear hp_c0); (try clear hp_f0)
    (try clear hp_c1); (try clear hp_f1)
    (try clear hp_c2); (try clear hp_f2)
    (try clear hp_c3); (try clear hp_f3)
    (try clear hp_c4); (try clear hp_f4)
    (try clear hp_c5); (try clear hp_f5)
    (try clear hp_lt)
    have hp_lt := hp.lt; (try simp only [World.size_alloc] at hp_lt)
    have hp_c0 := hp.cell 0; have hp_f0 := hp.frozen 0
    have hp_c1 := hp.cell 1; have hp_f1 := hp.frozen 1
    have hp_c2 := hp.cell 2; have hp_f2 := hp.frozen 2
    have hp_c3 := hp.cell 3; have hp_f3 := hp.frozen 3
    have hp_c4 := hp.cell 4; have hp_f4 := hp.frozen 4
    have hp_c5 := hp.cell 5; have hp_f5 := hp.frozen 5
    simp only [List.getElem?_toArray, List.getElem?_cons_zero, List.getElem?_cons_succ] at hp_c0 hp_c1 hp_c2 hp_c3 hp_c4 hp_c5
    go_enter Tryd.func43, Tryd.ntmps43
    go_wp2_with fail
    clear hw0
    refine (serialOf_any wi p1 p2 _).mono ?_
    rintro e w1 ⟨rfl, rfl⟩
    rw [HSR.out]
    go_wp2_with fail
    refine (apn_any base m 2 c A zs sr w0 HO.out hbase (by omega) hs0.1 (by omega) (.inl rfl)).mono ?_
    rintro e w1 ⟨A1, c1, rfl, hown1, hG1⟩
    have hs1 := hG1.but.size
    have hp1 := hp.gr hG1 HN0.out
    have HN1 := Lib.hid (hG1.far HN0.out hwl)
    have HO1 := Lib.hid hown1
    have HG1 := Lib.hid (HG0.out.trans hG1)
    (try clear hp_c0); (try clear hp_f0)
    (try clear hp_c1); (try clear hp_f1)
    (try clear hp_c2); (try clear hp_f2)
    (try clear hp_c3); (try clear hp_f3)
    (try clear hp_c4); (try clear hp_f4)
    (try clear hp_c5); (try clear hp_f5)
    (try clear hp_lt)
    (try clear hp1_c0); (try clear hp1_f0)
    (try clear hp1_c1); (try clear hp1_f1)
    (try clear hp1_c2); (try clear hp1_f2)
    (try clear hp1_c3); (try clear hp1_f3)
    (try clear hp1_c4); (try clear hp1_f4)
    (try clear hp1_c5); (try clear hp1_f5)
    (try clear hp1_lt)
    have hp1_lt := hp1.lt; (try simp only [World.size_alloc] at hp1_lt)
    have hp1_c0 := hp1.cell 0; have hp1_f0 := hp1.frozen 0
    have hp1_c1 := hp1.cell 1; have hp1_f1 := hp1.frozen 1
    have hp1_c2 := hp1.cell 2; have hp1_f2 := hp1.frozen 2
    have hp1_c3 := hp1.cell 3; have hp1_f3 := hp1.frozen 3
    have hp1_c4 := hp1.cell 4; have hp1_f4 := hp1.frozen 4
    have hp1_c5 := hp1.cell 5; have hp1_f5 := hp1.frozen 5
    simp only [List.getElem?_toArray, List.getElem?_cons_zero, List.getElem?_cons_succ] at hp1_c0 hp1_c1 hp1_c2 hp1_c3 hp1_c4 hp1_c5
    clear hown1 hG1
    go_wp2_with fail
    refine (apn_any base (m + 2) 3 c1 A1 _ ti w1 HO1.out (by omega) (by omega) p3 (by omega) (.inr rfl)).mono ?_
    rintro e w2 ⟨A2, c2, rfl, hown2, hG2⟩
    have hs2 := hG2.but.size
    have hp2 := hp1.gr hG2 HN1.out
    have HN2 := Lib.hid (hG2.far HN1.out (by omega))
    have HO2 := Lib.hid hown2
    have HG2 := Lib.hid (HG1.out.trans hG2)
    (try clear hp1_c0); (try clear hp1_f0)
    (try clear hp1_c1); (try clear hp1_f1)
    (try clear hp1_c2); (try clear hp1_f2)
    (try clear hp1_c3); (try clear hp1_f3)
    (try clear hp1_c4); (try clear hp1_f4)
    (try clear hp1_c5); (try clear hp1_f5)
    (try clear hp1_lt)
    have HP2 := Lib.hid hp2
    have HNB := Lib.hid (fun z : Int => show Sl (w2.alloc (.cells #[.int .i64 z] 3)) (w2.heap.size + 1) 1 (some ⟨w2.heap.size, 0, none⟩) 1 [Value.int .i64 z] from ⟨rfl, fun _ => ⟨w2.heap.size, 0, rfl, by omega, fun j u hu => by
      rw [Nat.zero_add, (Bk.new w2 3 #[.int .i64 z]).cell j]; simpa using hu⟩⟩)
    clear hown2 hG2 hp2 hp1 hp
    go_wp2_with (at_builtin; refine wpList_app _ rfl _ _ 22 rfl base 3 i0 (.int .i64 0) 1 8 Tryd.underlying22 hi0 hz0 hz1 hz2 rfl (by omega) _ (m + 2 + 3) _ rfl (HO2.out.alloc _) (w2.heap.size + 1) (some ⟨w2.heap.size, 0, none⟩) 1 1 _ rfl (HNB.out _) (one_i _) (by unfold maxLen; omega) (by omega) (by simp; omega) ?_; intro v3 w3 hown3 hgrow hat; have hc3 := (HP2.out.gr (((Gr.refl _ w2).alloc (.cells _ _)).trans (Gr.app hgrow hat)) HN2.out).cell 3; simp only [List.getElem?_toArray, List.getElem?_cons_zero, List.getElem?_cons_succ] at hc3)
    obtain ⟨A3, c3, rfl, -, -, -⟩ := own_shape hown3
    have hG3 := ((Gr.refl _ w2).alloc (.cells _ _)).trans (Gr.app hgrow hat)
    have hs3 := hG3.but.size
    have HO3 := Lib.hid hown3
    have HG3 := Lib.hid (HG2.out.trans hG3)
    clear hown3 hgrow hat hG3
    refine (apn_any base (m + 2 + 3 + 1) 2 c3 A3 _ si w3 (own_snoc HO3.out) (by omega) (by omega) (by omega) (by omega) (.inl rfl)).mono ?_
    rintro e w4 ⟨A4, c4, rfl, hown4, hG4⟩
    have HO4 := Lib.hid hown4
    have HG4 := Lib.hid (HG3.out.trans hG4)
    clear hown4 hG4
    go_wp2
    go_ret
    exact ⟨A4, c4, rfl, by
      have h1 := HO4.out
      rw [← HBY.out]
      simpa [List.append_assoc] using h1, HG4.out⟩
end Go.Proofs.YtjpglpglgkopiaaDoor
