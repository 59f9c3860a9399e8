/-
  The program's reader of bytes: a packet.
  Conditions: the reader's block and its bytes, as the theorem states them.
-/
import Derived.Test.YtjpglpglgkopiaaDoorHdN
import Derived.Test.YtjpglpglgkopiaaDoorPkV
import Derived.Test.YtjpglpglgkopiaaDoorWideN
namespace Go.Proofs.YtjpglpglgkopiaaDoor
open Go.RowKit
set_option linter.unusedVariables false
set_option linter.unusedSimpArgs false

theorem bOk_cat {zs : List Int} {p a b : Nat} (h : bOk zs p a) (h' : bOk zs (p + a) b) : bOk zs p (a + b) := fun j hj => by
  rcases Nat.lt_or_ge j a with h1 | h1
  · exact h j h1
  · have := h' (j - a) (by omega)
    rwa [show p + a + (j - a) = p + j by omega] at this
theorem bOk_part {zs : List Int} {p a b c : Nat} (h : bOk zs p c) (hc : a + b ≤ c) : bOk zs (p + a) b := fun j hj => by
  have := h (a + j) (by omega)
  rwa [show p + (a + j) = p + a + j by omega] at this
/-- Eight bytes, one by one. -/
theorem drop8 {zs : List Int} {p : Nat} (h : p + 8 ≤ zs.length) : (zs.drop p).take 8 = [zs[p + 0]?.getD 0, zs[p + 1]?.getD 0, zs[p + 2]?.getD 0, zs[p + 3]?.getD 0, zs[p + 4]?.getD 0, zs[p + 5]?.getD 0, zs[p + 6]?.getD 0, zs[p + 7]?.getD 0] := by
  obtain ⟨b0, b1, b2, b3, b4, b5, b6, b7, hb⟩ := list8 (l := (zs.drop p).take 8) (by simp; omega)
  have at_ : ∀ j, j < 8 → zs[p + j]?.getD 0 = ((zs.drop p).take 8)[j]?.getD 0 := fun j hj => by
    rw [List.getElem?_take, if_pos hj, List.getElem?_drop]
  rw [at_ 0 (by omega), at_ 1 (by omega), at_ 2 (by omega), at_ 3 (by omega), at_ 4 (by omega), at_ 5 (by omega), at_ 6 (by omega), at_ 7 (by omega), hb]
  rfl
theorem bOk_8 {zs : List Int} {p : Nat} : bOk zs p 8 ↔ (isB (zs[p + 0]?.getD 0) ∧ isB (zs[p + 1]?.getD 0) ∧ isB (zs[p + 2]?.getD 0) ∧ isB (zs[p + 3]?.getD 0) ∧ isB (zs[p + 4]?.getD 0) ∧ isB (zs[p + 5]?.getD 0) ∧ isB (zs[p + 6]?.getD 0) ∧ isB (zs[p + 7]?.getD 0)) := by
  constructor
  · intro h
    exact ⟨h 0 (by omega), h 1 (by omega), h 2 (by omega), h 3 (by omega), h 4 (by omega), h 5 (by omega), h 6 (by omega), h 7 (by omega)⟩
  · rintro ⟨h0, h1, h2, h3, h4, h5, h6, h7⟩ j hj
    match j, hj with
    | 0, _ => exact h0
    | 1, _ => exact h1
    | 2, _ => exact h2
    | 3, _ => exact h3
    | 4, _ => exact h4
    | 5, _ => exact h5
    | 6, _ => exact h6
    | 7, _ => exact h7
/-- What the four numbers make of a packet. -/
theorem hd_at {zs : List Int} {p : Nat} (near : Int) (h : p + 8 ≤ zs.length) (hb : bOk zs p 8) :
    (∀ x, hd near ((zs.drop p).take 8) = some x → nU zs (p + 5) 1 ≤ 15 ∧ WideOk near (nU zs p 2) ∧ x = ⟨wideNum near (nU zs p 2), nU zs (p + 2) 3, nU zs (p + 5) 1 % 4, nU zs (p + 6) 2, nU zs (p + 5) 1 / 4 % 2 == 1, nU zs (p + 5) 1 / 8 % 2 == 1⟩ ∧ pkOk x) ∧
    (nU zs (p + 5) 1 ≤ 15 → WideOk near (nU zs p 2) → pkOk ⟨wideNum near (nU zs p 2), nU zs (p + 2) 3, nU zs (p + 5) 1 % 4, nU zs (p + 6) 2, nU zs (p + 5) 1 / 4 % 2 == 1, nU zs (p + 5) 1 / 8 % 2 == 1⟩ → hd near ((zs.drop p).take 8) ≠ none) := by
  rw [drop8 h]
  have hb8 := bOk_8.1 hb
  have e0 : nU zs p 2 = 256 * (zs[p + 0]?.getD 0) + zs[p + 1]?.getD 0 := by simp only [nU]; omega
  have e1 : nU zs (p + 2) 3 = 65536 * (zs[p + 2]?.getD 0) + 256 * (zs[p + 3]?.getD 0) + zs[p + 4]?.getD 0 := by
    have q0 : p + 2 + 0 = p + 2 := rfl
    have q1 : p + 2 + 1 = p + 3 := rfl
    have q2 : p + 2 + 2 = p + 4 := rfl
    simp only [nU, q0, q1, q2]; omega
  have e2 : nU zs (p + 5) 1 = zs[p + 5]?.getD 0 := by
    have q0 : p + 5 + 0 = p + 5 := rfl
    simp only [nU, q0]; omega
  have e3 : nU zs (p + 6) 2 = 256 * (zs[p + 6]?.getD 0) + zs[p + 7]?.getD 0 := by
    have q0 : p + 6 + 0 = p + 6 := rfl
    have q1 : p + 6 + 1 = p + 7 := rfl
    simp only [nU, q0, q1]; omega
  rw [e0, e1, e2, e3]
  generalize zs[p + 0]?.getD 0 = b0 at *
  generalize zs[p + 1]?.getD 0 = b1 at *
  generalize zs[p + 2]?.getD 0 = b2 at *
  generalize zs[p + 3]?.getD 0 = b3 at *
  generalize zs[p + 4]?.getD 0 = b4 at *
  generalize zs[p + 5]?.getD 0 = b5 at *
  generalize zs[p + 6]?.getD 0 = b6 at *
  generalize zs[p + 7]?.getD 0 = b7 at *
  have hb5 := hb8.2.2.2.2.2.1
  unfold isB at hb5
  have hq : b5 ≤ 15 → (b5 / 8 % 2 == 1) = (b5 / 8 == 1) := fun h15 => by
    rw [show b5 / 8 % 2 = b5 / 8 by omega]
  constructor
  · intro x hx
    by_cases ho : hOk near b0 b1 b2 b3 b4 b5 b6 b7
    · rw [hd_ok ho] at hx
      injection hx with hx
      subst hx
      refine ⟨ho.2.1, ho.2.2.1, ?_, ho.2.2.2⟩
      rw [hq ho.2.1]
      rfl
    · rw [hd_no ho] at hx
      cases hx
  · intro h1 h2 h3
    rw [hq h1] at h3
    rw [hd_ok ⟨hb8, h1, h2, h3⟩]
    simp
theorem hd_bad {zs : List Int} {p : Nat} (near : Int) (h : p + 8 ≤ zs.length) (hb : ¬ bOk zs p 8) : hd near ((zs.drop p).take 8) = none := by
  rw [drop8 h]
  refine hd_no fun ho => hb (bOk_8.2 ho.1)

theorem and_marks : ∀ f : Fin 256, (bits BinOp.and IntKind.i64 (f.val : Int) 4 != 0) = ((f.val : Int) / 4 % 2 == 1) ∧ (bits BinOp.and IntKind.i64 (f.val : Int) 8 != 0) = ((f.val : Int) / 8 % 2 == 1) := by decide +kernel
theorem and_mark {f : Int} (h0 : 0 ≤ f) (h1 : f ≤ 255) : (bits BinOp.and IntKind.i64 f 4 != 0) = (f / 4 % 2 == 1) ∧ (bits BinOp.and IntKind.i64 f 8 != 0) = (f / 8 % 2 == 1) := by
  have := and_marks ⟨f.toNat, by omega⟩
  simp only [Int.toNat_of_nonneg h0] at this
  exact this

def offK : Nat → Nat
  | 0 => 0
  | 1 => 2
  | 2 => 5
  | 3 => 6
  | _ => 8
/-- The fields that were read. -/
def fC (zs : List Int) (p : Nat) : Nat → Array Value
  | 0 => #[.int .i64 0, .int .i64 0, .int .i64 0, .int .i64 0]
  | 1 => #[.int .i64 (nU zs p 2), .int .i64 0, .int .i64 0, .int .i64 0]
  | 2 => #[.int .i64 (nU zs p 2), .int .i64 (nU zs (p + 2) 3), .int .i64 0, .int .i64 0]
  | 3 => #[.int .i64 (nU zs p 2), .int .i64 (nU zs (p + 2) 3), .int .i64 (nU zs (p + 5) 1), .int .i64 0]
  | _ => #[.int .i64 (nU zs p 2), .int .i64 (nU zs (p + 2) 3), .int .i64 (nU zs (p + 5) 1), .int .i64 (nU zs (p + 6) 2)]

theorem idx_0 (w : World) : Sem.run Tryd.prog (Instr.index 74 (.agg #[.int .i64 2, .int .i64 3, .int .i64 1, .int .i64 2]) (.int .i64 0)) w = .ok (.int .i64 2) w := by kernel_rfl
theorem idx_1 (w : World) : Sem.run Tryd.prog (Instr.index 74 (.agg #[.int .i64 2, .int .i64 3, .int .i64 1, .int .i64 2]) (.int .i64 1)) w = .ok (.int .i64 3) w := by kernel_rfl
theorem idx_2 (w : World) : Sem.run Tryd.prog (Instr.index 74 (.agg #[.int .i64 2, .int .i64 3, .int .i64 1, .int .i64 2]) (.int .i64 2)) w = .ok (.int .i64 1) w := by kernel_rfl
theorem idx_3 (w : World) : Sem.run Tryd.prog (Instr.index 74 (.agg #[.int .i64 2, .int .i64 3, .int .i64 1, .int .i64 2]) (.int .i64 3)) w = .ok (.int .i64 2) w := by kernel_rfl

/-- A packet was read. -/
structure PkYes (g : Nat) (A : Option Addr) (n c : Nat) (p : Nat) (x : Pk) (w : World) (e : Ending) (w' : World) : Prop where
  e : e = .returned (.tuple #[.agg #[.int .i64 x.wi, .int .i64 x.ti, .int .i64 x.la, .int .i64 x.si, .bool x.ky, .bool x.en], .nilIface])
  bk : Bk w' g 54 #[.slice A n c, .int .i64 ((p + 8 : Nat) : Int)]
  only : Only g w w'

set_option maxHeartbeats 16000000 in
set_option maxRecDepth 100000 in
theorem pkt_any (g p n c : Nat) (near : Int) (A : Option Addr) (zs : List Int) (w : World) (hb : Bk w g 54 #[.slice A n c, .int .i64 p]) (hz : Ints w g A n zs) (hp : p + 8 ≤ n) (hn : n ≤ 1099511627776) :
    Calls Tryd.prog 38 #[.pointer (some ⟨g, 0, none⟩), .int .i64 near] w fun e w' => (∀ x, hd near ((zs.drop p).take 8) = some x → PkYes g A n c p x w e w') ∧
      (hd near ((zs.drop p).take 8) = none → ErrOf g (.agg #[.int .i64 0, .int .i64 0, .int .i64 0, .int .i64 0, .bool false, .bool false]) w e w') := by
  have hgw := hb.lt
  have hl : p + 8 ≤ zs.length := by have := hz.len; omega
  have HD := Lib.hid (hd_at near hl)
  have HX := Lib.hid (hd_bad near hl)
  have hres := (Bk.new w 24 #[.int .i64 0, .int .i64 0, .int .i64 0, .int .i64 0, .bool false, .bool false]).alloc (.cells #[.int .i64 0, .int .i64 0, .int .i64 0, .int .i64 0] 74)
  have hfl := Bk.new (w.alloc (.cells #[.int .i64 0, .int .i64 0, .int .i64 0, .int .i64 0, .bool false, .bool false] 24)) 74 #[.int .i64 0, .int .i64 0, .int .i64 0, .int .i64 0]
  simp only [World.size_alloc] at hfl
  have hb2 : Bk ((w.alloc (.cells #[.int .i64 0, .int .i64 0, .int .i64 0, .int .i64 0, .bool false, .bool false] 24)).alloc (.cells #[.int .i64 0, .int .i64 0, .int .i64 0, .int .i64 0] 74)) g 54 #[.slice A n c, .int .i64 p] := (hb.alloc _).alloc _
  have ho2 : Only g w ((w.alloc (.cells #[.int .i64 0, .int .i64 0, .int .i64 0, .int .i64 0, .bool false, .bool false] 24)).alloc (.cells #[.int .i64 0, .int .i64 0, .int .i64 0, .int .i64 0] 74)) := ((Only.refl g w).alloc _).alloc _
  clear hl
  go_enter Tryd.func38, Tryd.ntmps38
  (try clear hb_c0); (try clear hb_f0)
  (try clear hb_c1); (try clear hb_f1)
  (try clear hb_lt)
  have hb_lt := hb.lt; (try simp only [World.size_alloc] at hb_lt)
  have hb_c0 := hb.cell 0; have hb_f0 := hb.frozen 0
  have hb_c1 := hb.cell 1; have hb_f1 := hb.frozen 1
  simp only [List.getElem?_toArray, List.getElem?_cons_zero, List.getElem?_cons_succ] at hb_c0 hb_c1
  go_wp2
  (try clear hb_c0); (try clear hb_f0)
  (try clear hb_c1); (try clear hb_f1)
  (try clear hb_lt)
  go_loopw [21] (fun i wr => ∃ (k m : Nat) (zi : Int), k ≤ 4 ∧ m = p + offK k ∧ zi = k ∧ i = .int .i64 zi ∧ bOk zs p (offK k) ∧ Bk wr g 54 #[.slice A n c, .int .i64 m] ∧ Bk wr w.heap.size 24 #[.int .i64 0, .int .i64 0, .int .i64 0, .int .i64 0, .bool false, .bool false] ∧ Bk wr (w.heap.size + 1) 74 (fC zs p k) ∧ Only g w wr) (fun i _ => 4 - (intOf i).toNat)
  case atStart => exact ⟨0, p, 0, by omega, by simp [offK], rfl, rfl, fun j hj => absurd hj (by simp [offK]), hb2, hres, hfl, ho2⟩
  case round =>
    clear hb2 hres hfl ho2
    obtain ⟨k, m, zi, hk, hm, hzi, rfl, hok, hbk, hrs, hfk, ho⟩ := hrel
    have HZ := Lib.hid (show Ints wr g A n zs from Sl.only hz ho (Nat.le_refl _) (Nat.le_of_lt hgw))
    have hr1 : w.heap.size < wr.heap.size := hrs.lt
    have hf1 : w.heap.size + 1 < wr.heap.size := hfk.lt
    have HOK := Lib.hid hok
    clear hok
    rcases (show k = 0 ∨ k = 1 ∨ k = 2 ∨ k = 3 ∨ k = 4 by omega) with rfl | rfl | rfl | rfl | rfl
    · obtain rfl : zi = 0 := by simpa using hzi
      clear hzi
      replace hm : m = p + 0 := hm
      replace hfk : Bk wr (w.heap.size + 1) 74 #[.int .i64 0, .int .i64 0, .int .i64 0, .int .i64 0] := hfk
      have hix := idx_0
      go_wp2_with fail
      clear hix
      refine (num_at g m 2 n c 2 A zs _ rfl hbk HZ.out (by omega) hn (by omega)).mono ?_
      rintro e w1 ⟨hy, hx⟩
      by_cases hbo : bOk zs m 2
      · obtain ⟨rfl, hbk1, ho1⟩ := hy hbo
        clear hx hy
        have HN := Lib.hid (show bOk zs p 2 from bOk_cat (a := 0) (b := 2) HOK.out (by rw [← hm]; exact hbo))
        have hf2 := hfk.only ho1 (by omega)
        have HR := Lib.hid (hrs.only ho1 (by omega))
        have hO := ho.trans ho1
        obtain ⟨v, hv⟩ : ∃ v, nU zs m 2 = v := ⟨_, rfl⟩
        have HV := Lib.hid (show nU zs p 2 = v by subst hm; exact hv)
        rw [hv]
        have HS := Lib.hid (hf2.set_ 0 (.int .i64 v))
        have HB := Lib.hid (hbk1.far (p := ⟨w.heap.size + 1, 0, none⟩) (by show g ≠ w.heap.size + 1; omega) (.int .i64 v))
        have HR2 := Lib.hid (HR.out.far (p := ⟨w.heap.size + 1, 0, none⟩) (by show w.heap.size ≠ w.heap.size + 1; omega) (.int .i64 v))
        have HO2 := Lib.hid (hO.setCell (p := ⟨w.heap.size + 1, 0, none⟩) (.inr (by show w.heap.size ≤ w.heap.size + 1; omega)) (.int .i64 v))
        (try clear hf2_c0); (try clear hf2_f0)
        (try clear hf2_c1); (try clear hf2_f1)
        (try clear hf2_c2); (try clear hf2_f2)
        (try clear hf2_c3); (try clear hf2_f3)
        (try clear hf2_lt)
        have hf2_lt := hf2.lt; (try simp only [World.size_alloc] at hf2_lt)
        have hf2_c0 := hf2.cell 0; have hf2_f0 := hf2.frozen 0
        have hf2_c1 := hf2.cell 1; have hf2_f1 := hf2.frozen 1
        have hf2_c2 := hf2.cell 2; have hf2_f2 := hf2.frozen 2
        have hf2_c3 := hf2.cell 3; have hf2_f3 := hf2.frozen 3
        simp only [List.getElem?_toArray, List.getElem?_cons_zero, List.getElem?_cons_succ] at hf2_c0 hf2_c1 hf2_c2 hf2_c3
        clear hbk hbk1 hfk hf2 hrs HR ho ho1 hO hv hbo hb
        go_wp2
        go_roundw
        case rel => exact ⟨1, m + 2, _, by omega, by rw [hm]; rfl, rfl, by go_num, HN.out, HB.out, HR2.out, by have h1 := HV.out; have h2 := HS.out; subst h1; simpa [fC] using h2, HO2.out⟩
        case measure => simp [intOf]
      · obtain ⟨a, rfl, ho1⟩ := hx hbo
        clear hx hy
        have HNO := Lib.hid (HX.out (fun h => hbo (by rw [hm]; exact bOk_part h (by omega))))
        have hO := ho.trans ho1
        have hr2 := hrs.only ho1 (by omega)
        (try clear hr2_c0); (try clear hr2_f0)
        (try clear hr2_c1); (try clear hr2_f1)
        (try clear hr2_c2); (try clear hr2_f2)
        (try clear hr2_c3); (try clear hr2_f3)
        (try clear hr2_c4); (try clear hr2_f4)
        (try clear hr2_c5); (try clear hr2_f5)
        (try clear hr2_lt)
        have hr2_lt := hr2.lt; (try simp only [World.size_alloc] at hr2_lt)
        have hr2_c0 := hr2.cell 0; have hr2_f0 := hr2.frozen 0
        have hr2_c1 := hr2.cell 1; have hr2_f1 := hr2.frozen 1
        have hr2_c2 := hr2.cell 2; have hr2_f2 := hr2.frozen 2
        have hr2_c3 := hr2.cell 3; have hr2_f3 := hr2.frozen 3
        have hr2_c4 := hr2.cell 4; have hr2_f4 := hr2.frozen 4
        have hr2_c5 := hr2.cell 5; have hr2_f5 := hr2.frozen 5
        simp only [List.getElem?_toArray, List.getElem?_cons_zero, List.getElem?_cons_succ] at hr2_c0 hr2_c1 hr2_c2 hr2_c3 hr2_c4 hr2_c5
        clear hbk hfk hrs ho ho1 hbo hb
        go_wp2
        refine ⟨rfl, ?_⟩
        apply Exists.intro
        apply And.intro
        · simp [results, Tryd.results38, go_sem, hr2_c0, hr2_c1, hr2_c2, hr2_c3, hr2_c4, hr2_c5, hr2_lt]; exact rfl
        · exact ⟨fun x hx => absurd (HNO.out.symm.trans hx) (by simp), fun _ => ⟨_, rfl, (by repeat (first | with_reducible exact hO | with_reducible refine Only.setCell ?_ (.inr ?_) _ | with_reducible refine Only.alloc ?_ _ | exact Nat.le_refl _ | (show w.heap.size ≤ w.heap.size + 1; omega)))⟩⟩
    · obtain rfl : zi = 1 := by simpa using hzi
      clear hzi
      replace hm : m = p + 2 := hm
      replace hfk : Bk wr (w.heap.size + 1) 74 #[.int .i64 (nU zs p 2), .int .i64 0, .int .i64 0, .int .i64 0] := hfk
      have hix := idx_1
      go_wp2_with fail
      clear hix
      refine (num_at g m 3 n c 3 A zs _ rfl hbk HZ.out (by omega) hn (by omega)).mono ?_
      rintro e w1 ⟨hy, hx⟩
      by_cases hbo : bOk zs m 3
      · obtain ⟨rfl, hbk1, ho1⟩ := hy hbo
        clear hx hy
        have HN := Lib.hid (show bOk zs p 5 from bOk_cat (a := 2) (b := 3) HOK.out (by rw [← hm]; exact hbo))
        have hf2 := hfk.only ho1 (by omega)
        have HR := Lib.hid (hrs.only ho1 (by omega))
        have hO := ho.trans ho1
        obtain ⟨v, hv⟩ : ∃ v, nU zs m 3 = v := ⟨_, rfl⟩
        have HV := Lib.hid (show nU zs (p + 2) 3 = v by subst hm; exact hv)
        rw [hv]
        have HS := Lib.hid (hf2.set_ 1 (.int .i64 v))
        have HB := Lib.hid (hbk1.far (p := ⟨w.heap.size + 1, 1, none⟩) (by show g ≠ w.heap.size + 1; omega) (.int .i64 v))
        have HR2 := Lib.hid (HR.out.far (p := ⟨w.heap.size + 1, 1, none⟩) (by show w.heap.size ≠ w.heap.size + 1; omega) (.int .i64 v))
        have HO2 := Lib.hid (hO.setCell (p := ⟨w.heap.size + 1, 1, none⟩) (.inr (by show w.heap.size ≤ w.heap.size + 1; omega)) (.int .i64 v))
        (try clear hf2_c0); (try clear hf2_f0)
        (try clear hf2_c1); (try clear hf2_f1)
        (try clear hf2_c2); (try clear hf2_f2)
        (try clear hf2_c3); (try clear hf2_f3)
        (try clear hf2_lt)
        have hf2_lt := hf2.lt; (try simp only [World.size_alloc] at hf2_lt)
        have hf2_c0 := hf2.cell 0; have hf2_f0 := hf2.frozen 0
        have hf2_c1 := hf2.cell 1; have hf2_f1 := hf2.frozen 1
        have hf2_c2 := hf2.cell 2; have hf2_f2 := hf2.frozen 2
        have hf2_c3 := hf2.cell 3; have hf2_f3 := hf2.frozen 3
        simp only [List.getElem?_toArray, List.getElem?_cons_zero, List.getElem?_cons_succ] at hf2_c0 hf2_c1 hf2_c2 hf2_c3
        clear hbk hbk1 hfk hf2 hrs HR ho ho1 hO hv hbo hb
        go_wp2
        go_roundw
        case rel => exact ⟨2, m + 3, _, by omega, by rw [hm]; rfl, rfl, by go_num, HN.out, HB.out, HR2.out, by have h1 := HV.out; have h2 := HS.out; subst h1; simpa [fC] using h2, HO2.out⟩
        case measure => simp [intOf]
      · obtain ⟨a, rfl, ho1⟩ := hx hbo
        clear hx hy
        have HNO := Lib.hid (HX.out (fun h => hbo (by rw [hm]; exact bOk_part h (by omega))))
        have hO := ho.trans ho1
        have hr2 := hrs.only ho1 (by omega)
        (try clear hr2_c0); (try clear hr2_f0)
        (try clear hr2_c1); (try clear hr2_f1)
        (try clear hr2_c2); (try clear hr2_f2)
        (try clear hr2_c3); (try clear hr2_f3)
        (try clear hr2_c4); (try clear hr2_f4)
        (try clear hr2_c5); (try clear hr2_f5)
        (try clear hr2_lt)
        have hr2_lt := hr2.lt; (try simp only [World.size_alloc] at hr2_lt)
        have hr2_c0 := hr2.cell 0; have hr2_f0 := hr2.frozen 0
        have hr2_c1 := hr2.cell 1; have hr2_f1 := hr2.frozen 1
        have hr2_c2 := hr2.cell 2; have hr2_f2 := hr2.frozen 2
        have hr2_c3 := hr2.cell 3; have hr2_f3 := hr2.frozen 3
        have hr2_c4 := hr2.cell 4; have hr2_f4 := hr2.frozen 4
        have hr2_c5 := hr2.cell 5; have hr2_f5 := hr2.frozen 5
        simp only [List.getElem?_toArray, List.getElem?_cons_zero, List.getElem?_cons_succ] at hr2_c0 hr2_c1 hr2_c2 hr2_c3 hr2_c4 hr2_c5
        clear hbk hfk hrs ho ho1 hbo hb
        go_wp2
        refine ⟨rfl, ?_⟩
        apply Exists.intro
        apply And.intro
        · simp [results, Tryd.results38, go_sem, hr2_c0, hr2_c1, hr2_c2, hr2_c3, hr2_c4, hr2_c5, hr2_lt]; exact rfl
        · exact ⟨fun x hx => absurd (HNO.out.symm.trans hx) (by simp), fun _ => ⟨_, rfl, (by repeat (first | with_reducible exact hO | with_reducible refine Only.setCell ?_ (.inr ?_) _ | with_reducible refine Only.alloc ?_ _ | exact Nat.le_refl _ | (show w.heap.size ≤ w.heap.size + 1; omega)))⟩⟩
    · obtain rfl : zi = 2 := by simpa using hzi
      clear hzi
      replace hm : m = p + 5 := hm
      replace hfk : Bk wr (w.heap.size + 1) 74 #[.int .i64 (nU zs p 2), .int .i64 (nU zs (p + 2) 3), .int .i64 0, .int .i64 0] := hfk
      have hix := idx_2
      go_wp2_with fail
      clear hix
      refine (num_at g m 1 n c 1 A zs _ rfl hbk HZ.out (by omega) hn (by omega)).mono ?_
      rintro e w1 ⟨hy, hx⟩
      by_cases hbo : bOk zs m 1
      · obtain ⟨rfl, hbk1, ho1⟩ := hy hbo
        clear hx hy
        have HN := Lib.hid (show bOk zs p 6 from bOk_cat (a := 5) (b := 1) HOK.out (by rw [← hm]; exact hbo))
        have hf2 := hfk.only ho1 (by omega)
        have HR := Lib.hid (hrs.only ho1 (by omega))
        have hO := ho.trans ho1
        obtain ⟨v, hv⟩ : ∃ v, nU zs m 1 = v := ⟨_, rfl⟩
        have HV := Lib.hid (show nU zs (p + 5) 1 = v by subst hm; exact hv)
        rw [hv]
        have HS := Lib.hid (hf2.set_ 2 (.int .i64 v))
        have HB := Lib.hid (hbk1.far (p := ⟨w.heap.size + 1, 2, none⟩) (by show g ≠ w.heap.size + 1; omega) (.int .i64 v))
        have HR2 := Lib.hid (HR.out.far (p := ⟨w.heap.size + 1, 2, none⟩) (by show w.heap.size ≠ w.heap.size + 1; omega) (.int .i64 v))
        have HO2 := Lib.hid (hO.setCell (p := ⟨w.heap.size + 1, 2, none⟩) (.inr (by show w.heap.size ≤ w.heap.size + 1; omega)) (.int .i64 v))
        (try clear hf2_c0); (try clear hf2_f0)
        (try clear hf2_c1); (try clear hf2_f1)
        (try clear hf2_c2); (try clear hf2_f2)
        (try clear hf2_c3); (try clear hf2_f3)
        (try clear hf2_lt)
        have hf2_lt := hf2.lt; (try simp only [World.size_alloc] at hf2_lt)
        have hf2_c0 := hf2.cell 0; have hf2_f0 := hf2.frozen 0
        have hf2_c1 := hf2.cell 1; have hf2_f1 := hf2.frozen 1
        have hf2_c2 := hf2.cell 2; have hf2_f2 := hf2.frozen 2
        have hf2_c3 := hf2.cell 3; have hf2_f3 := hf2.frozen 3
        simp only [List.getElem?_toArray, List.getElem?_cons_zero, List.getElem?_cons_succ] at hf2_c0 hf2_c1 hf2_c2 hf2_c3
        clear hbk hbk1 hfk hf2 hrs HR ho ho1 hO hv hbo hb
        go_wp2
        go_roundw
        case rel => exact ⟨3, m + 1, _, by omega, by rw [hm]; rfl, rfl, by go_num, HN.out, HB.out, HR2.out, by have h1 := HV.out; have h2 := HS.out; subst h1; simpa [fC] using h2, HO2.out⟩
        case measure => simp [intOf]
      · obtain ⟨a, rfl, ho1⟩ := hx hbo
        clear hx hy
        have HNO := Lib.hid (HX.out (fun h => hbo (by rw [hm]; exact bOk_part h (by omega))))
        have hO := ho.trans ho1
        have hr2 := hrs.only ho1 (by omega)
        (try clear hr2_c0); (try clear hr2_f0)
        (try clear hr2_c1); (try clear hr2_f1)
        (try clear hr2_c2); (try clear hr2_f2)
        (try clear hr2_c3); (try clear hr2_f3)
        (try clear hr2_c4); (try clear hr2_f4)
        (try clear hr2_c5); (try clear hr2_f5)
        (try clear hr2_lt)
        have hr2_lt := hr2.lt; (try simp only [World.size_alloc] at hr2_lt)
        have hr2_c0 := hr2.cell 0; have hr2_f0 := hr2.frozen 0
        have hr2_c1 := hr2.cell 1; have hr2_f1 := hr2.frozen 1
        have hr2_c2 := hr2.cell 2; have hr2_f2 := hr2.frozen 2
        have hr2_c3 := hr2.cell 3; have hr2_f3 := hr2.frozen 3
        have hr2_c4 := hr2.cell 4; have hr2_f4 := hr2.frozen 4
        have hr2_c5 := hr2.cell 5; have hr2_f5 := hr2.frozen 5
        simp only [List.getElem?_toArray, List.getElem?_cons_zero, List.getElem?_cons_succ] at hr2_c0 hr2_c1 hr2_c2 hr2_c3 hr2_c4 hr2_c5
        clear hbk hfk hrs ho ho1 hbo hb
        go_wp2
        refine ⟨rfl, ?_⟩
        apply Exists.intro
        apply And.intro
        · simp [results, Tryd.results38, go_sem, hr2_c0, hr2_c1, hr2_c2, hr2_c3, hr2_c4, hr2_c5, hr2_lt]; exact rfl
        · exact ⟨fun x hx => absurd (HNO.out.symm.trans hx) (by simp), fun _ => ⟨_, rfl, (by repeat (first | with_reducible exact hO | with_reducible refine Only.setCell ?_ (.inr ?_) _ | with_reducible refine Only.alloc ?_ _ | exact Nat.le_refl _ | (show w.heap.size ≤ w.heap.size + 1; omega)))⟩⟩
    · obtain rfl : zi = 3 := by simpa using hzi
      clear hzi
      replace hm : m = p + 6 := hm
      replace hfk : Bk wr (w.heap.size + 1) 74 #[.int .i64 (nU zs p 2), .int .i64 (nU zs (p + 2) 3), .int .i64 (nU zs (p + 5) 1), .int .i64 0] := hfk
      have hix := idx_3
      go_wp2_with fail
      clear hix
      refine (num_at g m 2 n c 2 A zs _ rfl hbk HZ.out (by omega) hn (by omega)).mono ?_
      rintro e w1 ⟨hy, hx⟩
      by_cases hbo : bOk zs m 2
      · obtain ⟨rfl, hbk1, ho1⟩ := hy hbo
        clear hx hy
        have HN := Lib.hid (show bOk zs p 8 from bOk_cat (a := 6) (b := 2) HOK.out (by rw [← hm]; exact hbo))
        have hf2 := hfk.only ho1 (by omega)
        have HR := Lib.hid (hrs.only ho1 (by omega))
        have hO := ho.trans ho1
        obtain ⟨v, hv⟩ : ∃ v, nU zs m 2 = v := ⟨_, rfl⟩
        have HV := Lib.hid (show nU zs (p + 6) 2 = v by subst hm; exact hv)
        rw [hv]
        have HS := Lib.hid (hf2.set_ 3 (.int .i64 v))
        have HB := Lib.hid (hbk1.far (p := ⟨w.heap.size + 1, 3, none⟩) (by show g ≠ w.heap.size + 1; omega) (.int .i64 v))
        have HR2 := Lib.hid (HR.out.far (p := ⟨w.heap.size + 1, 3, none⟩) (by show w.heap.size ≠ w.heap.size + 1; omega) (.int .i64 v))
        have HO2 := Lib.hid (hO.setCell (p := ⟨w.heap.size + 1, 3, none⟩) (.inr (by show w.heap.size ≤ w.heap.size + 1; omega)) (.int .i64 v))
        (try clear hf2_c0); (try clear hf2_f0)
        (try clear hf2_c1); (try clear hf2_f1)
        (try clear hf2_c2); (try clear hf2_f2)
        (try clear hf2_c3); (try clear hf2_f3)
        (try clear hf2_lt)
        have hf2_lt := hf2.lt; (try simp only [World.size_alloc] at hf2_lt)
        have hf2_c0 := hf2.cell 0; have hf2_f0 := hf2.frozen 0
        have hf2_c1 := hf2.cell 1; have hf2_f1 := hf2.frozen 1
        have hf2_c2 := hf2.cell 2; have hf2_f2 := hf2.frozen 2
        have hf2_c3 := hf2.cell 3; have hf2_f3 := hf2.frozen 3
        simp only [List.getElem?_toArray, List.getElem?_cons_zero, List.getElem?_cons_succ] at hf2_c0 hf2_c1 hf2_c2 hf2_c3
        clear hbk hbk1 hfk hf2 hrs HR ho ho1 hO hv hbo hb
        go_wp2
        go_roundw
        case rel => exact ⟨4, m + 2, _, by omega, by rw [hm]; rfl, rfl, by go_num, HN.out, HB.out, HR2.out, by have h1 := HV.out; have h2 := HS.out; subst h1; simpa [fC] using h2, HO2.out⟩
        case measure => simp [intOf]
      · obtain ⟨a, rfl, ho1⟩ := hx hbo
        clear hx hy
        have HNO := Lib.hid (HX.out (fun h => hbo (by rw [hm]; exact bOk_part h (by omega))))
        have hO := ho.trans ho1
        have hr2 := hrs.only ho1 (by omega)
        (try clear hr2_c0); (try clear hr2_f0)
        (try clear hr2_c1); (try clear hr2_f1)
        (try clear hr2_c2); (try clear hr2_f2)
        (try clear hr2_c3); (try clear hr2_f3)
        (try clear hr2_c4); (try clear hr2_f4)
        (try clear hr2_c5); (try clear hr2_f5)
        (try clear hr2_lt)
        have hr2_lt := hr2.lt; (try simp only [World.size_alloc] at hr2_lt)
        have hr2_c0 := hr2.cell 0; have hr2_f0 := hr2.frozen 0
        have hr2_c1 := hr2.cell 1; have hr2_f1 := hr2.frozen 1
        have hr2_c2 := hr2.cell 2; have hr2_f2 := hr2.frozen 2
        have hr2_c3 := hr2.cell 3; have hr2_f3 := hr2.frozen 3
        have hr2_c4 := hr2.cell 4; have hr2_f4 := hr2.frozen 4
        have hr2_c5 := hr2.cell 5; have hr2_f5 := hr2.frozen 5
        simp only [List.getElem?_toArray, List.getElem?_cons_zero, List.getElem?_cons_succ] at hr2_c0 hr2_c1 hr2_c2 hr2_c3 hr2_c4 hr2_c5
        clear hbk hfk hrs ho ho1 hbo hb
        go_wp2
        refine ⟨rfl, ?_⟩
        apply Exists.intro
        apply And.intro
        · simp [results, Tryd.results38, go_sem, hr2_c0, hr2_c1, hr2_c2, hr2_c3, hr2_c4, hr2_c5, hr2_lt]; exact rfl
        · exact ⟨fun x hx => absurd (HNO.out.symm.trans hx) (by simp), fun _ => ⟨_, rfl, (by repeat (first | with_reducible exact hO | with_reducible refine Only.setCell ?_ (.inr ?_) _ | with_reducible refine Only.alloc ?_ _ | exact Nat.le_refl _ | (show w.heap.size ≤ w.heap.size + 1; omega)))⟩⟩
    · obtain rfl : zi = 4 := by simpa using hzi
      clear hzi
      replace hm : m = p + 8 := hm
      replace hfk : Bk wr (w.heap.size + 1) 74 #[.int .i64 (nU zs p 2), .int .i64 (nU zs (p + 2) 3), .int .i64 (nU zs (p + 5) 1), .int .i64 (nU zs (p + 6) 2)] := hfk
      have c0 : 0 ≤ nU zs p 2 ∧ nU zs p 2 ≤ 65535 := nU_cap (by omega) (bOk_part (a := 0) (c := 8) HOK.out (by omega))
      have c1 : 0 ≤ nU zs (p + 2) 3 ∧ nU zs (p + 2) 3 ≤ 16777215 := nU_cap (by omega) (bOk_part (c := 8) HOK.out (by omega))
      have c2 : 0 ≤ nU zs (p + 5) 1 ∧ nU zs (p + 5) 1 ≤ 255 := nU_cap (by omega) (bOk_part (c := 8) HOK.out (by omega))
      have c3 : 0 ≤ nU zs (p + 6) 2 ∧ nU zs (p + 6) 2 ≤ 65535 := nU_cap (by omega) (bOk_part (c := 8) HOK.out (by omega))
      have hdd := HD.out HOK.out
      clear HOK HX HD HZ hb
      generalize nU zs p 2 = f0 at *
      generalize nU zs (p + 2) 3 = f1 at *
      generalize nU zs (p + 5) 1 = f2 at *
      generalize nU zs (p + 6) 2 = f3 at *
      have hkk := and_mark c2.1 c2.2
      have hla : Int.tmod f2 4 = f2 % 4 := Int.tmod_eq_emod_of_nonneg c2.1
      generalize (f2 / 4 % 2 == 1) = kb at *
      generalize (f2 / 8 % 2 == 1) = lb at *
      generalize f2 % 4 = la at *
      have HKK := Lib.hid hkk
      have HLA := Lib.hid hla
      clear hkk hla
      have HDD := Lib.hid hdd
      clear hdd
      obtain ⟨c00, c01⟩ := c0
      obtain ⟨c10, c11⟩ := c1
      obtain ⟨c20, c21⟩ := c2
      obtain ⟨c30, c31⟩ := c3
      have HB := Lib.hid hbk
      have HF := Lib.hid hfk
      have HR := Lib.hid hrs
      have HO := Lib.hid ho
      (try clear hfk_c0); (try clear hfk_f0)
      (try clear hfk_c1); (try clear hfk_f1)
      (try clear hfk_c2); (try clear hfk_f2)
      (try clear hfk_c3); (try clear hfk_f3)
      (try clear hfk_lt)
      have hfk_lt := hfk.lt; (try simp only [World.size_alloc] at hfk_lt)
      have hfk_c0 := hfk.cell 0; have hfk_f0 := hfk.frozen 0
      have hfk_c1 := hfk.cell 1; have hfk_f1 := hfk.frozen 1
      have hfk_c2 := hfk.cell 2; have hfk_f2 := hfk.frozen 2
      have hfk_c3 := hfk.cell 3; have hfk_f3 := hfk.frozen 3
      simp only [List.getElem?_toArray, List.getElem?_cons_zero, List.getElem?_cons_succ] at hfk_c0 hfk_c1 hfk_c2 hfk_c3
      (try clear hrs_c0); (try clear hrs_f0)
      (try clear hrs_c1); (try clear hrs_f1)
      (try clear hrs_c2); (try clear hrs_f2)
      (try clear hrs_c3); (try clear hrs_f3)
      (try clear hrs_c4); (try clear hrs_f4)
      (try clear hrs_c5); (try clear hrs_f5)
      (try clear hrs_lt)
      have hrs_lt := hrs.lt; (try simp only [World.size_alloc] at hrs_lt)
      have hrs_c0 := hrs.cell 0; have hrs_f0 := hrs.frozen 0
      have hrs_c1 := hrs.cell 1; have hrs_f1 := hrs.frozen 1
      have hrs_c2 := hrs.cell 2; have hrs_f2 := hrs.frozen 2
      have hrs_c3 := hrs.cell 3; have hrs_f3 := hrs.frozen 3
      have hrs_c4 := hrs.cell 4; have hrs_f4 := hrs.frozen 4
      have hrs_c5 := hrs.cell 5; have hrs_f5 := hrs.frozen 5
      simp only [List.getElem?_toArray, List.getElem?_cons_zero, List.getElem?_cons_succ] at hrs_c0 hrs_c1 hrs_c2 hrs_c3 hrs_c4 hrs_c5
      clear hbk hfk hrs ho
      by_cases hw : WideOk near f0
      · go_wp2_with fail
        refine (impl_wide_ok hw _).mono ?_
        rintro e w1 ⟨rfl, rfl⟩
        have HW := Lib.hid hw
        obtain ⟨hk4, hk8⟩ := HKK.out
        have hla := HLA.out
        generalize hwd : wideNum near f0 = wd at *
        clear hw hwd
        have hpb := Bk.new wr 24 #[.int .i64 wd, .int .i64 f1, .int .i64 la, .int .i64 f3, .bool kb, .bool lb]
        have HR1 := Lib.hid (HR.out.alloc (.cells #[.int .i64 wd, .int .i64 f1, .int .i64 la, .int .i64 f3, .bool kb, .bool lb] 24))
        have HB1 := Lib.hid (HB.out.alloc (.cells #[.int .i64 wd, .int .i64 f1, .int .i64 la, .int .i64 f3, .bool kb, .bool lb] 24))
        have HO1 := Lib.hid (HO.out.alloc (.cells #[.int .i64 wd, .int .i64 f1, .int .i64 la, .int .i64 f3, .bool kb, .bool lb] 24))
        by_cases h15 : f2 ≤ 15
        · have e1 : decide (16 ≤ f2) = false := by simp; omega
          go_wp2_with fail
          refine (ipk_any ⟨wd, f1, la, f3, kb, lb⟩ _).mono ?_
          rintro e w2 ⟨rfl, hb2⟩
          have hO := HO1.out.trans (Only.of_below hb2 (g := g))
          have hB2 := HB1.out.below hb2 HB1.out.lt
          have hr := HR1.out.below hb2 HR1.out.lt
          replace hpb := hpb.below hb2 hpb.lt
          have hwl : wr.heap.size < w2.heap.size := hpb.lt
          (try clear hfk_c0); (try clear hfk_f0)
          (try clear hfk_c1); (try clear hfk_f1)
          (try clear hfk_c2); (try clear hfk_f2)
          (try clear hfk_c3); (try clear hfk_f3)
          (try clear hfk_lt)
          (try clear hrs_c0); (try clear hrs_f0)
          (try clear hrs_c1); (try clear hrs_f1)
          (try clear hrs_c2); (try clear hrs_f2)
          (try clear hrs_c3); (try clear hrs_f3)
          (try clear hrs_c4); (try clear hrs_f4)
          (try clear hrs_c5); (try clear hrs_f5)
          (try clear hrs_lt)
          have HB2 := Lib.hid hB2
          (try clear hr_c0); (try clear hr_f0)
          (try clear hr_c1); (try clear hr_f1)
          (try clear hr_c2); (try clear hr_f2)
          (try clear hr_c3); (try clear hr_f3)
          (try clear hr_c4); (try clear hr_f4)
          (try clear hr_c5); (try clear hr_f5)
          (try clear hr_lt)
          have hr_lt := hr.lt; (try simp only [World.size_alloc] at hr_lt)
          have hr_c0 := hr.cell 0; have hr_f0 := hr.frozen 0
          have hr_c1 := hr.cell 1; have hr_f1 := hr.frozen 1
          have hr_c2 := hr.cell 2; have hr_f2 := hr.frozen 2
          have hr_c3 := hr.cell 3; have hr_f3 := hr.frozen 3
          have hr_c4 := hr.cell 4; have hr_f4 := hr.frozen 4
          have hr_c5 := hr.cell 5; have hr_f5 := hr.frozen 5
          simp only [List.getElem?_toArray, List.getElem?_cons_zero, List.getElem?_cons_succ] at hr_c0 hr_c1 hr_c2 hr_c3 hr_c4 hr_c5
          (try clear hpb_c0); (try clear hpb_f0)
          (try clear hpb_c1); (try clear hpb_f1)
          (try clear hpb_c2); (try clear hpb_f2)
          (try clear hpb_c3); (try clear hpb_f3)
          (try clear hpb_c4); (try clear hpb_f4)
          (try clear hpb_c5); (try clear hpb_f5)
          (try clear hpb_lt)
          have hpb_lt := hpb.lt; (try simp only [World.size_alloc] at hpb_lt)
          have hpb_c0 := hpb.cell 0; have hpb_f0 := hpb.frozen 0
          have hpb_c1 := hpb.cell 1; have hpb_f1 := hpb.frozen 1
          have hpb_c2 := hpb.cell 2; have hpb_f2 := hpb.frozen 2
          have hpb_c3 := hpb.cell 3; have hpb_f3 := hpb.frozen 3
          have hpb_c4 := hpb.cell 4; have hpb_f4 := hpb.frozen 4
          have hpb_c5 := hpb.cell 5; have hpb_f5 := hpb.frozen 5
          simp only [List.getElem?_toArray, List.getElem?_cons_zero, List.getElem?_cons_succ] at hpb_c0 hpb_c1 hpb_c2 hpb_c3 hpb_c4 hpb_c5
          clear HB HF HR HO HB1 HR1 HO1 hB2 hb2
          cases hq : pkB ⟨wd, f1, la, f3, kb, lb⟩ with
          | true =>
            have HP : pkOk ⟨wd, f1, la, f3, kb, lb⟩ := of_decide_eq_true hq
            clear hq
            go_wp2
            refine ⟨rfl, ?_⟩
            apply Exists.intro
            apply And.intro
            · simp [results, Tryd.results38, go_sem, hr_c0, hr_c1, hr_c2, hr_c3, hr_c4, hr_c5, hr_lt, hpb_c0, hpb_c1, hpb_c2, hpb_c3, hpb_c4, hpb_c5, hpb_lt]; exact rfl
            · refine ⟨fun x hx => ?_, fun hx => absurd hx (HDD.out.2 h15 HW.out HP)⟩
              obtain ⟨-, -, rfl, -⟩ := HDD.out.1 x hx
              exact ⟨rfl, by have h1 := HB2.out; rw [hm] at h1; repeat (first | with_reducible exact h1 | with_reducible refine Bk.far ?_ ?_ _ | (show g ≠ w.heap.size; omega)), (by repeat (first | with_reducible exact hO | with_reducible refine Only.setCell ?_ (.inr ?_) _ | with_reducible refine Only.alloc ?_ _ | exact Nat.le_refl _ | (show w.heap.size ≤ w.heap.size + 1; omega)))⟩
          | false =>
            have HP : ¬ pkOk ⟨wd, f1, la, f3, kb, lb⟩ := of_decide_eq_false hq
            clear hq
            go_wp2
            refine ⟨rfl, ?_⟩
            apply Exists.intro
            apply And.intro
            · simp [results, Tryd.results38, go_sem, hr_c0, hr_c1, hr_c2, hr_c3, hr_c4, hr_c5, hr_lt, hpb_c0, hpb_c1, hpb_c2, hpb_c3, hpb_c4, hpb_c5, hpb_lt]; exact rfl
            · refine ⟨fun x hx => ?_, fun _ => ⟨_, rfl, (by repeat (first | with_reducible exact hO | with_reducible refine Only.setCell ?_ (.inr ?_) _ | with_reducible refine Only.alloc ?_ _ | exact Nat.le_refl _ | (show w.heap.size ≤ w.heap.size + 1; omega)))⟩⟩
              obtain ⟨-, -, rfl, h4⟩ := HDD.out.1 x hx
              exact absurd h4 HP
        · have e1 : decide (16 ≤ f2) = true := by simp; omega
          have hO := HO.out
          clear HB HF HR HO HB1 HR1 HO1 hpb
          go_wp2
          refine ⟨rfl, ?_⟩
          apply Exists.intro
          apply And.intro
          · simp [results, Tryd.results38, go_sem, hrs_c0, hrs_c1, hrs_c2, hrs_c3, hrs_c4, hrs_c5, hrs_lt]; exact rfl
          · refine ⟨fun x hx => ?_, fun _ => ⟨_, rfl, (by repeat (first | with_reducible exact hO | with_reducible refine Only.setCell ?_ (.inr ?_) _ | with_reducible refine Only.alloc ?_ _ | exact Nat.le_refl _ | (show w.heap.size ≤ w.heap.size + 1; omega)))⟩⟩
            have := (HDD.out.1 x hx).1; omega
      · go_wp2_with fail
        refine (impl_wide_no hw _).mono ?_
        rintro e w1 ⟨rfl, rfl⟩
        have HW := Lib.hid hw
        obtain ⟨hk4, hk8⟩ := HKK.out
        have hla := HLA.out
        clear hw
        have hO := HO.out
        clear HB HF HR HO
        go_wp2
        refine ⟨rfl, ?_⟩
        apply Exists.intro
        apply And.intro
        · simp [results, Tryd.results38, go_sem, hrs_c0, hrs_c1, hrs_c2, hrs_c3, hrs_c4, hrs_c5, hrs_lt]; exact rfl
        · refine ⟨fun x hx => ?_, fun _ => ⟨_, rfl, (by repeat (first | with_reducible exact hO | with_reducible refine Only.setCell ?_ (.inr ?_) _ | with_reducible refine Only.alloc ?_ _ | exact Nat.le_refl _ | (show w.heap.size ≤ w.heap.size + 1; omega)))⟩⟩
          exact absurd (HDD.out.1 x hx).2.1 HW.out
end Go.Proofs.YtjpglpglgkopiaaDoor
