/-
  Scripts: the program's machine: its memory, lost, store, key, put.
  Conditions: the state is valid (scOk) and lies at the machine's block; the table of powers of ten holds what it held.
-/
import Derived.Test.YthbkmnladaneaaaGreatDoorScW
import Derived.Test.YthbkmnladaneaaaGreatDoorScB
import Derived.Test.YthbkmnladaneaaaGreatDoorSrI
import Derived.Test.YthbkmnladaneaaaGreatDoorShf
import Derived.Lib.QuietBelow
namespace Go.Proofs.YthbkmnladaneaaaGreatDoor
open Go.RowKit
set_option linter.unusedVariables false
set_option linter.unusedSimpArgs false
set_option maxRecDepth 100000

/-- The table of powers of ten stands. -/
def TB (w : World) : Prop := Lib.TabIs Tryz.prog w "internal/strconv.uint64pow10" .u64 Lib.pow10Tab
theorem TB.block {w w' : World} (h : TB w) (hk : ∀ (g : Nat) (cs : Array Value) (t : TypeId) (f : Nat × Nat), w.heap[g]? = some (Obj.cells cs t f) → cs.size = 20 → w'.heap[g]? = w.heap[g]?) : TB w' := by
  unfold TB Lib.TabIs World.var? at h ⊢
  cases hg : Tryz.prog.globalNamed "internal/strconv.uint64pow10" with
  | none => rw [hg] at h; cases h
  | some g =>
    rw [hg] at h
    simp only [Option.bind_some] at h ⊢
    cases hh : w.heap[g]? with
    | none => rw [hh] at h; cases h
    | some o =>
      rw [hh] at h
      cases o with
      | cells cs t f =>
        simp only [Option.some.injEq] at h
        rw [hk g cs t f hh (by rw [h]; rfl), hh]
        simp only [Option.some.injEq]
        exact h
      | _ => cases h
theorem TB.below {w w' : World} (h : TB w) (hb : Below w.heap.size w w') : TB w' := h.block fun g cs t f hg _ => hb.block g (Array.getElem?_eq_some_iff.1 hg).1
theorem TB.only {w w' : World} {g : Nat} {T : TypeId} {cs : Array Value} (h : TB w) (hk : Bk w g T cs) (hs : cs.size ≠ 20) (ho : Only g w w') : TB w' := h.block fun g' cs' t f hg h20 => by
  refine ho.block g' (Array.getElem?_eq_some_iff.1 hg).1 ?_
  rintro rfl
  unfold Bk at hk
  rw [hg] at hk
  injection hk with hk
  injection hk with hk
  subst hk
  exact hs h20
theorem itoa_any (n : Int) (w : World) (h : TB w) (h0 : 0 ≤ n) (h1 : n < 10000000) : Calls Tryz.prog 34 #[.int .i64 n] w fun e w' => e = .returned (.string ⟨(dI n).toArray⟩) ∧ Below w.heap.size w w' := by
  refine (Tryz.strconv_Itoa n (by omega) (by omega) w h).mono ?_
  rintro e w' ⟨rfl, k, os, rfl⟩
  exact ⟨by rw [itoa_dI h0 h1], below_regrown w _ os⟩
/-- The machine at its block. -/
def mqC (s : Sc) (A : Option Addr) (c : Nat) : Array Value := #[.int .i64 4, .int .i64 s.co, .slice A s.xs.length c, .int .i64 s.nx, .int .i64 s.lo, .bool s.wt]
/-- A row of packets lies in a block of packets. -/
def RT (w : World) (A : Option Addr) (n : Nat) : Prop := 0 < n → ∀ k o, A = some ⟨k, o, none⟩ → ∃ cs fz, w.heap[k]? = some (Obj.cells cs 81 fz)
theorem RT.but {w w' : World} {A : Option Addr} {n : Nat} {X : Nat → Prop} (h : RT w A n) (hb : But X w w') (hX : 0 < n → ∀ k o, A = some ⟨k, o, none⟩ → ¬ X k) : RT w' A n := fun hn k o e => by
  obtain ⟨cs, fz, hk⟩ := h hn k o e
  exact ⟨cs, fz, (hb.block k (Array.getElem?_eq_some_iff.1 hk).1 (hX hn k o e)).trans hk⟩
theorem RT.below {w w' : World} {A : Option Addr} {n : Nat} (h : RT w A n) (hb : Below w.heap.size w w') : RT w' A n := h.but (X := fun _ => False) (But.of_new hb) (fun _ _ _ _ => id)
theorem rt_own {w : World} {B n c : Nat} {A : Option Addr} {xs : List Value} (h : w.ownsRow B 81 6 (.slice A n c) n xs) : RT w A n := fun hn k o e => by
  rcases h.2 with ⟨h1, h2⟩ | ⟨g, cap, cur, hv, hb, hg, -⟩
  · omega
  · injection hv with h3
    rw [h3] at e
    injection e with e
    injection e with e
    subst e
    exact ⟨cur, _, hg⟩
theorem own_le {w : World} {B n c : Nat} {A : Option Addr} {e : TypeId} {k : Nat} {xs : List Value} (h : w.ownsRow B e k (.slice A n c) n xs) : n ≤ c ∧ c ≤ maxLen := by
  obtain ⟨A', c', e', h1, h2, -⟩ := own_shape h
  injection e' with e1 e2 e3
  subst e3
  exact ⟨h1, h2⟩
def MQ (s : Sc) (g : Nat) (w : World) : Prop := ∃ A c, Bk w g 38 (mqC s A c) ∧ Pks w w.heap.size A s.xs.length s.xs ∧ s.xs.length ≤ c ∧ c ≤ maxLen ∧ RT w A s.xs.length
theorem MQ.below {s : Sc} {g : Nat} {w w' : World} (h : MQ s g w) (hb : Below w.heap.size w w') : MQ s g w' := by
  obtain ⟨A, c, h1, h2, h3, h4, h5⟩ := h
  exact ⟨A, c, h1.below hb h1.lt, (h2.below hb).more hb.size, h3, h4, h5.below hb⟩
theorem MQ.lt {s : Sc} {g : Nat} {w : World} (h : MQ s g w) : g < w.heap.size := by
  obtain ⟨A, c, h1, -⟩ := h
  exact h1.lt
theorem MQ.tb {s : Sc} {g : Nat} {w w' : World} (h : MQ s g w) (ht : TB w) (ho : Only g w w') : TB w' := by
  obtain ⟨A, c, h1, -⟩ := h
  exact ht.only h1 (by simp [mqC]) ho
def MRet (r : Sc × List UInt8) (g : Nat) (w : World) (e : Ending) (w' : World) : Prop := e = .returned (.string ⟨r.2.toArray⟩) ∧ MQ r.1 g w' ∧ Only g w w'
theorem mret_same {s : Sc} {o : List UInt8} {g : Nat} {w w' : World} (h : MQ s g w) (hb : Below w.heap.size w w') : MRet (s, o) g w (.returned (.string ⟨o.toArray⟩)) w' := ⟨rfl, h.below hb, Only.of_below hb⟩
/-- What a method leaves: the machine's cells, a row that is not in its block. -/
theorem mret_end {s : Sc} {o : List UInt8} {g rb : Nat} {w w5 W6 : World} {A5 : Option Addr} {c5 : Nat} (hB5 : Below w.heap.size w w5) (hrb : w.heap.size ≤ rb) (hp5 : Pks w5 w5.heap.size A5 s.xs.length s.xs) (hc5 : s.xs.length ≤ c5) (hm5 : c5 ≤ maxLen) (hrt : RT w5 A5 s.xs.length)
    (hfar : 0 < s.xs.length → ∀ k o, A5 = some ⟨k, o, none⟩ → k ≠ g) (hfar2 : 0 < s.xs.length → ∀ k o, A5 = some ⟨k, o, none⟩ → k ≠ rb) (hX : But (fun k => k = g ∨ k = rb) w5 W6) (hbk : Bk W6 g 38 (mqC s A5 c5)) :
    MRet (s, o) g w (.returned (.string ⟨o.toArray⟩)) W6 :=
  ⟨rfl, ⟨A5, c5, hbk, Sl.more (Sl.far hp5 hX (fun hn k o e hk => hk.elim (hfar hn k o e) (hfar2 hn k o e))) hX.size, hc5, hm5, hrt.but hX (fun hn k o e hk => hk.elim (hfar hn k o e) (hfar2 hn k o e))⟩, ((But.of_below hB5 (fun k h1 h2 => absurd h1 (by omega))).trans hX).only (fun k hk hx => hx.elim id (fun e => by omega))⟩

theorem pks_lt {w : World} {B n : Nat} {A : Option Addr} {xs : List Pk} (h : Pks w B A n xs) (hn : 0 < n) (k o : Nat) (e : A = some ⟨k, o, none⟩) : k < B := by
  obtain ⟨b, off, e2, hb, -⟩ := h.addr hn
  rw [e2] at e
  injection e with e
  injection e with e
  omega
theorem pks_off3 {w : World} {B n g : Nat} {T : TypeId} {A : Option Addr} {xs : List Pk} {v0 v1 v2 : Value} (h : Pks w B A n xs) (hk : Bk w g T #[v0, v1, v2]) (hn : 0 < n) (k o : Nat) (e : A = some ⟨k, o, none⟩) : k ≠ g := by
  obtain ⟨b, off, e2, hb, hc⟩ := h.addr hn
  rw [e2] at e
  injection e with e
  injection e with e1 e3
  subst e1
  rintro rfl
  obtain ⟨x, hx⟩ : ∃ x, xs[0]? = some x := ⟨_, List.getElem?_eq_getElem (by rw [h.len]; exact hn)⟩
  obtain ⟨c0, cc1, c2, c3, c4, c5⟩ := hc 0 x hx
  rw [hk.cell, Array.getElem?_eq_none (by first | (simp; done) | (simp; omega))] at c5
  cases c5
set_option maxHeartbeats 1000000 in
theorem mlost_any (s : Sc) (g : Nat) (w : World) (h : MQ s g w) (ht : TB w) (hok : scOk s) :
    Calls Tryz.prog 24 #[.pointer (some ⟨g, 0, none⟩)] w (StrRet (lostA s) w) := by
  obtain ⟨A, c, hk, -⟩ := h
  obtain ⟨-, -, -, hlo0, hlo1⟩ := hok
  unfold mqC at hk
  have HD := Lib.hid (itoa_any s.lo w ht hlo0 (by omega))
  have hl7 := dI_len7 s.lo
  unfold lostA
  generalize dI s.lo = l at *
  obtain ⟨m1, hm1⟩ : ∃ m1, wLostB ++ l = m1 := ⟨_, rfl⟩
  have ap1 := app_str wLostB l m1 hm1
  rw [hm1]
  simp only [wLostB] at ap1
  have hq1 : ¬ 9223372036854775807 < 5 + l.length := by omega
  clear hm1
  generalize s.lo = lo at *
  (try clear hk_c0); (try clear hk_f0)
  (try clear hk_c1); (try clear hk_f1)
  (try clear hk_c2); (try clear hk_f2)
  (try clear hk_c3); (try clear hk_f3)
  (try clear hk_c4); (try clear hk_f4)
  (try clear hk_c5); (try clear hk_f5)
  (try clear hk_lt)
  have hk_lt := hk.lt; (try simp only [World.size_alloc] at hk_lt)
  have hk_c0 := hk.cell 0; have hk_f0 := hk.frozen 0
  have hk_c1 := hk.cell 1; have hk_f1 := hk.frozen 1
  have hk_c2 := hk.cell 2; have hk_f2 := hk.frozen 2
  have hk_c3 := hk.cell 3; have hk_f3 := hk.frozen 3
  have hk_c4 := hk.cell 4; have hk_f4 := hk.frozen 4
  have hk_c5 := hk.cell 5; have hk_f5 := hk.frozen 5
  simp only [List.getElem?_toArray, List.getElem?_cons_zero, List.getElem?_cons_succ] at hk_c0 hk_c1 hk_c2 hk_c3 hk_c4 hk_c5
  go_enter Tryz.func24, Tryz.ntmps24
  go_wp2_with (go_at_call 34; refine HD.out.mono ?_; rintro e w1 ⟨rfl, hb1⟩)
  go_ret
  exact ⟨rfl, hb1⟩

set_option maxHeartbeats 4000000 in
theorem mstore_yes (s : Sc) (ky : Bool) (a b : Int) (g : Nat) (An : Option Addr) (cn : Nat) (w : World) (h : MQ s g w) (hok : scOk s) (hn : Ints w w.heap.size An 2 [a, b]) (hin : RpIn 4 s.co s.xs ⟨a, b, 0, 100, ky, false⟩) :
    Calls Tryz.prog 76 #[.pointer (some ⟨g, 0, none⟩), .slice An 2 cn, .bool ky] w (MRet (putS s ky a b) g w) := by
  rw [putS_yes hok hin]
  have hmq := h
  obtain ⟨A, c, hk, hpk, hc, hcm, hrt⟩ := h
  have hl := scOk_len hok
  obtain ⟨bn, on, rfl, hbn, hcn⟩ := hn.at_ (by omega)
  have cn0 : w.cell? ⟨bn, on, none⟩ = some (.int .i64 a) := hcn 0 (by omega)
  have cn1 : w.cell? ⟨bn, on + 1, none⟩ = some (.int .i64 b) := hcn 1 (by omega)
  have n1 := World.new_ne _ _ cn0
  clear hcn hn
  have HP := Lib.hid (fun (w' : World) (hw : Below w.heap.size w w') => (irpO_any 4 s.co A s.xs.length c s.xs ⟨a, b, 0, 100, ky, false⟩ w' ((hpk.below hw).more hw.size) hc hcm hok.1).mono fun e w2 hh => hh.1 hin)
  have hpl4 : (putL 4 s.xs ⟨a, b, 0, 100, ky, false⟩).length ≤ 4 := by
    have := putL_len (p := ⟨a, b, 0, 100, ky, false⟩) hin.1
    omega
  unfold RgGoodO RgO at HP
  have HE := Lib.hid (fun (w5 W6 : World) (rb : Nat) (A5 : Option Addr) (c5 : Nat) => (@mret_end { s with co := s.co + 1, xs := putL 4 s.xs ⟨a, b, 0, 100, ky, false⟩ } wOk g rb w w5 W6 A5 c5))
  unfold mqC at HE
  simp only at HE
  generalize MRet ({ s with co := s.co + 1, xs := putL 4 s.xs ⟨a, b, 0, 100, ky, false⟩ }, wOk) g w = R at *
  generalize putL 4 s.xs ⟨a, b, 0, 100, ky, false⟩ = ys at *
  generalize hm : ys.length = m at *
  clear hpk hin hok hmq
  unfold mqC at hk
  generalize hnn : s.xs.length = n at *
  generalize s.co = co at *
  generalize s.nx = nx at *
  generalize s.lo = lo at *
  generalize s.wt = wt at *
  go_enter Tryz.func76, Tryz.ntmps76
  go_wp2_with fail
  go_region_held3 (fun w' => w'.cell? ⟨bn, on, none⟩ = some (.int .i64 a) ∧ w'.cell? ⟨bn, on + 1, none⟩ = some (.int .i64 b)) (first | with_reducible exact ⟨cn0, cn1⟩ | go_keep) (fail)
  all_goals
    have hK1 := (hk.alloc (.cells #[.int .i64 a, .int .i64 b, .int .i64 0, .int .i64 100, .bool ky, .bool false] 81)).drew
    have hP1 := (Bk.new w 81 #[.int .i64 a, .int .i64 b, .int .i64 0, .int .i64 100, .bool ky, .bool false]).drew
    have hB1 : Below w.heap.size w (w.alloc (.cells #[.int .i64 a, .int .i64 b, .int .i64 0, .int .i64 100, .bool ky, .bool false] 81)).drew := ((Below.refl _ _).alloc (Nat.le_refl _) _).drew
    have hgl : g < w.heap.size := hk.lt
    have hpl : w.heap.size < (w.alloc (.cells #[.int .i64 a, .int .i64 b, .int .i64 0, .int .i64 100, .bool ky, .bool false] 81)).drew.heap.size := hP1.lt
    generalize (w.alloc (.cells #[.int .i64 a, .int .i64 b, .int .i64 0, .int .i64 100, .bool ky, .bool false] 81)).drew = W1 at *
    clear cn0 cn1 n1 hk
    obtain ⟨gp, hgp⟩ : ∃ gp, w.heap.size = gp := ⟨_, rfl⟩
    have HGP := Lib.hid hgp
    rw [hgp] at hP1 hgl hpl ⊢
    clear hgp
    have hBs := hB1.size
    have hK5 := hK1.drew
    have hP5 := hP1.drew
    have hK7 := (hK1.alloc (.cells #[.int .i64 0, .int .i64 0, .slice none 0 0] 34)).drew
    have hP7 := (hP1.alloc (.cells #[.int .i64 0, .int .i64 0, .slice none 0 0] 34)).drew
    have hX7 := (Bk.new W1 34 #[.int .i64 0, .int .i64 0, .slice none 0 0]).drew
    have hgl1 : g < W1.heap.size := by omega
    (try clear hK5_c0); (try clear hK5_f0)
    (try clear hK5_c1); (try clear hK5_f1)
    (try clear hK5_c2); (try clear hK5_f2)
    (try clear hK5_c3); (try clear hK5_f3)
    (try clear hK5_c4); (try clear hK5_f4)
    (try clear hK5_c5); (try clear hK5_f5)
    (try clear hK5_lt)
    have hK5_lt := hK5.lt; (try simp only [World.size_alloc] at hK5_lt)
    have hK5_c0 := hK5.cell 0; have hK5_f0 := hK5.frozen 0
    have hK5_c1 := hK5.cell 1; have hK5_f1 := hK5.frozen 1
    have hK5_c2 := hK5.cell 2; have hK5_f2 := hK5.frozen 2
    have hK5_c3 := hK5.cell 3; have hK5_f3 := hK5.frozen 3
    have hK5_c4 := hK5.cell 4; have hK5_f4 := hK5.frozen 4
    have hK5_c5 := hK5.cell 5; have hK5_f5 := hK5.frozen 5
    simp only [List.getElem?_toArray, List.getElem?_cons_zero, List.getElem?_cons_succ] at hK5_c0 hK5_c1 hK5_c2 hK5_c3 hK5_c4 hK5_c5
    (try clear hP5_c0); (try clear hP5_f0)
    (try clear hP5_c1); (try clear hP5_f1)
    (try clear hP5_c2); (try clear hP5_f2)
    (try clear hP5_c3); (try clear hP5_f3)
    (try clear hP5_c4); (try clear hP5_f4)
    (try clear hP5_c5); (try clear hP5_f5)
    (try clear hP5_lt)
    have hP5_lt := hP5.lt; (try simp only [World.size_alloc] at hP5_lt)
    have hP5_c0 := hP5.cell 0; have hP5_f0 := hP5.frozen 0
    have hP5_c1 := hP5.cell 1; have hP5_f1 := hP5.frozen 1
    have hP5_c2 := hP5.cell 2; have hP5_f2 := hP5.frozen 2
    have hP5_c3 := hP5.cell 3; have hP5_f3 := hP5.frozen 3
    have hP5_c4 := hP5.cell 4; have hP5_f4 := hP5.frozen 4
    have hP5_c5 := hP5.cell 5; have hP5_f5 := hP5.frozen 5
    simp only [List.getElem?_toArray, List.getElem?_cons_zero, List.getElem?_cons_succ] at hP5_c0 hP5_c1 hP5_c2 hP5_c3 hP5_c4 hP5_c5
    (try clear hK7_c0); (try clear hK7_f0)
    (try clear hK7_c1); (try clear hK7_f1)
    (try clear hK7_c2); (try clear hK7_f2)
    (try clear hK7_c3); (try clear hK7_f3)
    (try clear hK7_c4); (try clear hK7_f4)
    (try clear hK7_c5); (try clear hK7_f5)
    (try clear hK7_lt)
    have hK7_lt := hK7.lt; (try simp only [World.size_alloc] at hK7_lt)
    have hK7_c0 := hK7.cell 0; have hK7_f0 := hK7.frozen 0
    have hK7_c1 := hK7.cell 1; have hK7_f1 := hK7.frozen 1
    have hK7_c2 := hK7.cell 2; have hK7_f2 := hK7.frozen 2
    have hK7_c3 := hK7.cell 3; have hK7_f3 := hK7.frozen 3
    have hK7_c4 := hK7.cell 4; have hK7_f4 := hK7.frozen 4
    have hK7_c5 := hK7.cell 5; have hK7_f5 := hK7.frozen 5
    simp only [List.getElem?_toArray, List.getElem?_cons_zero, List.getElem?_cons_succ] at hK7_c0 hK7_c1 hK7_c2 hK7_c3 hK7_c4 hK7_c5
    (try clear hP7_c0); (try clear hP7_f0)
    (try clear hP7_c1); (try clear hP7_f1)
    (try clear hP7_c2); (try clear hP7_f2)
    (try clear hP7_c3); (try clear hP7_f3)
    (try clear hP7_c4); (try clear hP7_f4)
    (try clear hP7_c5); (try clear hP7_f5)
    (try clear hP7_lt)
    have hP7_lt := hP7.lt; (try simp only [World.size_alloc] at hP7_lt)
    have hP7_c0 := hP7.cell 0; have hP7_f0 := hP7.frozen 0
    have hP7_c1 := hP7.cell 1; have hP7_f1 := hP7.frozen 1
    have hP7_c2 := hP7.cell 2; have hP7_f2 := hP7.frozen 2
    have hP7_c3 := hP7.cell 3; have hP7_f3 := hP7.frozen 3
    have hP7_c4 := hP7.cell 4; have hP7_f4 := hP7.frozen 4
    have hP7_c5 := hP7.cell 5; have hP7_f5 := hP7.frozen 5
    simp only [List.getElem?_toArray, List.getElem?_cons_zero, List.getElem?_cons_succ] at hP7_c0 hP7_c1 hP7_c2 hP7_c3 hP7_c4 hP7_c5
    (try clear hX7_c0); (try clear hX7_f0)
    (try clear hX7_c1); (try clear hX7_f1)
    (try clear hX7_c2); (try clear hX7_f2)
    (try clear hX7_lt)
    have hX7_lt := hX7.lt; (try simp only [World.size_alloc] at hX7_lt)
    have hX7_c0 := hX7.cell 0; have hX7_f0 := hX7.frozen 0
    have hX7_c1 := hX7.cell 1; have hX7_f1 := hX7.frozen 1
    have hX7_c2 := hX7.cell 2; have hX7_f2 := hX7.frozen 2
    simp only [List.getElem?_toArray, List.getElem?_cons_zero, List.getElem?_cons_succ] at hX7_c0 hX7_c1 hX7_c2
    go_wp2_with fail
    go_region_held3 (fun w' => w'.cell? ⟨g, 0, none⟩ = some (.int .i64 4) ∧ w'.cell? ⟨g, 1, none⟩ = some (.int .i64 co) ∧ w'.cell? ⟨g, 2, none⟩ = some (.slice A n c) ∧ w'.cell? ⟨g, 3, none⟩ = some (.int .i64 nx) ∧ w'.cell? ⟨g, 4, none⟩ = some (.int .i64 lo) ∧ w'.cell? ⟨g, 5, none⟩ = some (.bool wt) ∧ w'.cell? ⟨gp, 0, none⟩ = some (.int .i64 a) ∧ w'.cell? ⟨gp, 1, none⟩ = some (.int .i64 b) ∧ w'.cell? ⟨gp, 2, none⟩ = some (.int .i64 0) ∧ w'.cell? ⟨gp, 3, none⟩ = some (.int .i64 100) ∧ w'.cell? ⟨gp, 4, none⟩ = some (.bool ky) ∧ w'.cell? ⟨gp, 5, none⟩ = some (.bool false)) (first | with_reducible exact ⟨hK5_c0, hK5_c1, hK5_c2, hK5_c3, hK5_c4, hK5_c5, hP5_c0, hP5_c1, hP5_c2, hP5_c3, hP5_c4, hP5_c5⟩ | with_reducible exact ⟨hK7_c0, hK7_c1, hK7_c2, hK7_c3, hK7_c4, hK7_c5, hP7_c0, hP7_c1, hP7_c2, hP7_c3, hP7_c4, hP7_c5⟩ | with_reducible exact ⟨hK6_c0, hK6_c1, hK6_c2, hK6_c3, hK6_c4, hK6_c5, hP6_c0, hP6_c1, hP6_c2, hP6_c3, hP6_c4, hP6_c5⟩ | with_reducible exact ⟨by (repeat (rw [World.cell?_setCell_other _ _ _ _ (fun e => by injection e; omega)])); with_reducible assumption, by (repeat (rw [World.cell?_setCell_other _ _ _ _ (fun e => by injection e; omega)])); with_reducible assumption, by (repeat (rw [World.cell?_setCell_other _ _ _ _ (fun e => by injection e; omega)])); with_reducible assumption, by (repeat (rw [World.cell?_setCell_other _ _ _ _ (fun e => by injection e; omega)])); with_reducible assumption, by (repeat (rw [World.cell?_setCell_other _ _ _ _ (fun e => by injection e; omega)])); with_reducible assumption, by (repeat (rw [World.cell?_setCell_other _ _ _ _ (fun e => by injection e; omega)])); with_reducible assumption, by (repeat (rw [World.cell?_setCell_other _ _ _ _ (fun e => by injection e; omega)])); with_reducible assumption, by (repeat (rw [World.cell?_setCell_other _ _ _ _ (fun e => by injection e; omega)])); with_reducible assumption, by (repeat (rw [World.cell?_setCell_other _ _ _ _ (fun e => by injection e; omega)])); with_reducible assumption, by (repeat (rw [World.cell?_setCell_other _ _ _ _ (fun e => by injection e; omega)])); with_reducible assumption, by (repeat (rw [World.cell?_setCell_other _ _ _ _ (fun e => by injection e; omega)])); with_reducible assumption, by (repeat (rw [World.cell?_setCell_other _ _ _ _ (fun e => by injection e; omega)])); with_reducible assumption⟩ | go_keep)
      ((go_at_call 88
        refine (HP.out _ (by first | exact hB1.drew | exact (hB1.alloc hBs _).drew)).mono ?_
        rintro e w5 ⟨v, rfl, ⟨A5, c5, rfl, hown5⟩, hb5⟩
        have hK6 : Bk w5 g 38 #[.int .i64 4, .int .i64 co, .slice A n c, .int .i64 nx, .int .i64 lo, .bool wt] := by first | exact hK5.below hb5 hK5.lt | exact hK7.below hb5 hK7.lt
        have hP6 : Bk w5 gp 81 #[.int .i64 a, .int .i64 b, .int .i64 0, .int .i64 100, .bool ky, .bool false] := by first | exact hP5.below hb5 hP5.lt | exact hP7.below hb5 hP7.lt
        have hB5 : Below w.heap.size w w5 := by first | exact hB1.drew.trans (hb5.mono hBs) | exact (hB1.alloc hBs _).drew.trans (hb5.mono (by simp; omega))
        have hK6_lt := hK6.lt; have hK6_c0 := hK6.cell 0; have hK6_f0 := hK6.frozen 0; have hK6_c1 := hK6.cell 1; have hK6_f1 := hK6.frozen 1; have hK6_c2 := hK6.cell 2; have hK6_f2 := hK6.frozen 2; have hK6_c3 := hK6.cell 3; have hK6_f3 := hK6.frozen 3; have hK6_c4 := hK6.cell 4; have hK6_f4 := hK6.frozen 4; have hK6_c5 := hK6.cell 5; have hK6_f5 := hK6.frozen 5; simp only [List.getElem?_toArray, List.getElem?_cons_zero, List.getElem?_cons_succ] at hK6_c0 hK6_c1 hK6_c2 hK6_c3 hK6_c4 hK6_c5; have hP6_lt := hP6.lt; have hP6_c0 := hP6.cell 0; have hP6_f0 := hP6.frozen 0; have hP6_c1 := hP6.cell 1; have hP6_f1 := hP6.frozen 1; have hP6_c2 := hP6.cell 2; have hP6_f2 := hP6.frozen 2; have hP6_c3 := hP6.cell 3; have hP6_f3 := hP6.frozen 3; have hP6_c4 := hP6.cell 4; have hP6_f4 := hP6.frozen 4; have hP6_c5 := hP6.cell 5; have hP6_f5 := hP6.frozen 5; simp only [List.getElem?_toArray, List.getElem?_cons_zero, List.getElem?_cons_succ] at hP6_c0 hP6_c1 hP6_c2 hP6_c3 hP6_c4 hP6_c5
        have hne6 := World.new_ne _ _ hK6_c0
        have hne7 := World.new_ne _ _ hP6_c0
        (try (have hX6 : Bk w5 W1.heap.size 34 #[.int .i64 0, .int .i64 0, .slice none 0 0] := hX7.below hb5 hX7.lt; have hX6_lt := hX6.lt; have hX6_c0 := hX6.cell 0; have hX6_f0 := hX6.frozen 0; have hX6_c1 := hX6.cell 1; have hX6_f1 := hX6.frozen 1; have hX6_c2 := hX6.cell 2; have hX6_f2 := hX6.frozen 2; simp only [List.getElem?_toArray, List.getElem?_cons_zero, List.getElem?_cons_succ] at hX6_c0 hX6_c1 hX6_c2))))
    rotate_left
    · have hne0 : g ≠ W1.heap.size := by omega
      have hle5 := own_le hown5
      have hrt5 := rt_own hown5
      have hp5 : Pks w5 w5.heap.size A5 m ys := Sl.of_own hown5
      have hfar := fun hn k o e => pks_off hp5 hK6 hn k o e
      have hfar2 := fun hn k o e => pks_off3 hp5 hX6 hn k o e
      have hrb := hB1.size
      have HG := Lib.hid (fun (W6 : World) hX hbk => HE.out w5 W6 W1.heap.size A5 c5 hB5 hrb hp5 hle5.1 hle5.2 hrt5 hfar hfar2 hX hbk)
      clear hfar hfar2 hp5 hown5 hrt5 HE HP
      go_wp2
      exact HG.out _ (by repeat (first | with_reducible exact But.refl _ _ | with_reducible refine But.setCell ?_ (Or.inl (Or.inl rfl)) _ | with_reducible refine But.setCell ?_ (Or.inl (Or.inr rfl)) _ | with_reducible refine But.setCell ?_ (Or.inr (Nat.le_refl _)) _ | with_reducible refine But.alloc ?_ _ | with_reducible refine But.drewN ?_ _ | with_reducible refine But.drew ?_)) ((((((hK6.far (p := ⟨W1.heap.size, 0, none⟩) hne0 (.int .i64 4)).far (p := ⟨W1.heap.size, 1, none⟩) hne0 (.int .i64 (co + 1))).far (p := ⟨W1.heap.size, 2, none⟩) hne0 (.slice A5 m c5)).set_ 0 (.int .i64 4)).set_ 1 (.int .i64 (co + 1))).set_ 2 (.slice A5 m c5))
    · have hle5 := own_le hown5
      have hrt5 := rt_own hown5
      have hp5 : Pks w5 w5.heap.size A5 m ys := Sl.of_own hown5
      have hfar := fun hn k o e => pks_off hp5 hK6 hn k o e
      have hfar2 := fun hn k o e => Nat.ne_of_lt (pks_lt hp5 hn k o e)
      have HG := Lib.hid (fun (W6 : World) hX hbk => HE.out w5 W6 w5.heap.size A5 c5 hB5 hB5.size hp5 hle5.1 hle5.2 hrt5 hfar hfar2 hX hbk)
      clear hfar hfar2 hp5 hown5 hrt5 HE HP
      go_wp2
      exact HG.out _ (by repeat (first | with_reducible exact But.refl _ _ | with_reducible refine But.setCell ?_ (Or.inl (Or.inl rfl)) _ | with_reducible refine But.setCell ?_ (Or.inl (Or.inr rfl)) _ | with_reducible refine But.setCell ?_ (Or.inr (Nat.le_refl _)) _ | with_reducible refine But.alloc ?_ _ | with_reducible refine But.drewN ?_ _ | with_reducible refine But.drew ?_)) ((((hK6.set_ 0 (.int .i64 4)).set_ 1 (.int .i64 (co + 1))).set_ 2 (.slice A5 m c5)).alloc _)

set_option maxHeartbeats 4000000 in
theorem mstore_no (s : Sc) (ky : Bool) (a b : Int) (g : Nat) (An : Option Addr) (cn : Nat) (w : World) (h : MQ s g w) (hok : scOk s) (hn : Ints w w.heap.size An 2 [a, b]) (hin : ¬ RpIn 4 s.co s.xs ⟨a, b, 0, 100, ky, false⟩) :
    Calls Tryz.prog 76 #[.pointer (some ⟨g, 0, none⟩), .slice An 2 cn, .bool ky] w (MRet (putS s ky a b) g w) := by
  rw [putS_no hok hin]
  have hmq := h
  obtain ⟨A, c, hk, hpk, hc, hcm, hrt⟩ := h
  have hl := scOk_len hok
  obtain ⟨bn, on, rfl, hbn, hcn⟩ := hn.at_ (by omega)
  have cn0 : w.cell? ⟨bn, on, none⟩ = some (.int .i64 a) := hcn 0 (by omega)
  have cn1 : w.cell? ⟨bn, on + 1, none⟩ = some (.int .i64 b) := hcn 1 (by omega)
  have n1 := World.new_ne _ _ cn0
  clear hcn hn
  have HP := Lib.hid (fun (w' : World) (hw : Below w.heap.size w w') => (irpO_any 4 s.co A s.xs.length c s.xs ⟨a, b, 0, 100, ky, false⟩ w' ((hpk.below hw).more hw.size) hc hcm hok.1).mono fun e w2 hh => hh.2 hin)
  unfold RgBad at HP
  have HE := Lib.hid (fun (W6 : World) (hb : Below w.heap.size w W6) => mret_same (o := wNo) hmq hb)
  generalize MRet (s, wNo) g w = R at *
  clear hpk hin hok hmq
  unfold mqC at hk
  generalize hnn : s.xs.length = n at *
  generalize s.co = co at *
  generalize s.nx = nx at *
  generalize s.lo = lo at *
  generalize s.wt = wt at *
  go_enter Tryz.func76, Tryz.ntmps76
  go_wp2_with fail
  go_region_held3 (fun w' => w'.cell? ⟨bn, on, none⟩ = some (.int .i64 a) ∧ w'.cell? ⟨bn, on + 1, none⟩ = some (.int .i64 b)) (first | with_reducible exact ⟨cn0, cn1⟩ | go_keep) (fail)
  all_goals
    have hK1 := (hk.alloc (.cells #[.int .i64 a, .int .i64 b, .int .i64 0, .int .i64 100, .bool ky, .bool false] 81)).drew
    have hP1 := (Bk.new w 81 #[.int .i64 a, .int .i64 b, .int .i64 0, .int .i64 100, .bool ky, .bool false]).drew
    have hB1 : Below w.heap.size w (w.alloc (.cells #[.int .i64 a, .int .i64 b, .int .i64 0, .int .i64 100, .bool ky, .bool false] 81)).drew := ((Below.refl _ _).alloc (Nat.le_refl _) _).drew
    have hgl : g < w.heap.size := hk.lt
    have hpl : w.heap.size < (w.alloc (.cells #[.int .i64 a, .int .i64 b, .int .i64 0, .int .i64 100, .bool ky, .bool false] 81)).drew.heap.size := hP1.lt
    generalize (w.alloc (.cells #[.int .i64 a, .int .i64 b, .int .i64 0, .int .i64 100, .bool ky, .bool false] 81)).drew = W1 at *
    clear cn0 cn1 n1 hk
    obtain ⟨gp, hgp⟩ : ∃ gp, w.heap.size = gp := ⟨_, rfl⟩
    have HGP := Lib.hid hgp
    rw [hgp] at hP1 hgl hpl ⊢
    clear hgp
    have hBs := hB1.size
    have hK5 := hK1.drew
    have hP5 := hP1.drew
    have hK7 := (hK1.alloc (.cells #[.int .i64 0, .int .i64 0, .slice none 0 0] 34)).drew
    have hP7 := (hP1.alloc (.cells #[.int .i64 0, .int .i64 0, .slice none 0 0] 34)).drew
    have hX7 := (Bk.new W1 34 #[.int .i64 0, .int .i64 0, .slice none 0 0]).drew
    have hgl1 : g < W1.heap.size := by omega
    (try clear hK5_c0); (try clear hK5_f0)
    (try clear hK5_c1); (try clear hK5_f1)
    (try clear hK5_c2); (try clear hK5_f2)
    (try clear hK5_c3); (try clear hK5_f3)
    (try clear hK5_c4); (try clear hK5_f4)
    (try clear hK5_c5); (try clear hK5_f5)
    (try clear hK5_lt)
    have hK5_lt := hK5.lt; (try simp only [World.size_alloc] at hK5_lt)
    have hK5_c0 := hK5.cell 0; have hK5_f0 := hK5.frozen 0
    have hK5_c1 := hK5.cell 1; have hK5_f1 := hK5.frozen 1
    have hK5_c2 := hK5.cell 2; have hK5_f2 := hK5.frozen 2
    have hK5_c3 := hK5.cell 3; have hK5_f3 := hK5.frozen 3
    have hK5_c4 := hK5.cell 4; have hK5_f4 := hK5.frozen 4
    have hK5_c5 := hK5.cell 5; have hK5_f5 := hK5.frozen 5
    simp only [List.getElem?_toArray, List.getElem?_cons_zero, List.getElem?_cons_succ] at hK5_c0 hK5_c1 hK5_c2 hK5_c3 hK5_c4 hK5_c5
    (try clear hP5_c0); (try clear hP5_f0)
    (try clear hP5_c1); (try clear hP5_f1)
    (try clear hP5_c2); (try clear hP5_f2)
    (try clear hP5_c3); (try clear hP5_f3)
    (try clear hP5_c4); (try clear hP5_f4)
    (try clear hP5_c5); (try clear hP5_f5)
    (try clear hP5_lt)
    have hP5_lt := hP5.lt; (try simp only [World.size_alloc] at hP5_lt)
    have hP5_c0 := hP5.cell 0; have hP5_f0 := hP5.frozen 0
    have hP5_c1 := hP5.cell 1; have hP5_f1 := hP5.frozen 1
    have hP5_c2 := hP5.cell 2; have hP5_f2 := hP5.frozen 2
    have hP5_c3 := hP5.cell 3; have hP5_f3 := hP5.frozen 3
    have hP5_c4 := hP5.cell 4; have hP5_f4 := hP5.frozen 4
    have hP5_c5 := hP5.cell 5; have hP5_f5 := hP5.frozen 5
    simp only [List.getElem?_toArray, List.getElem?_cons_zero, List.getElem?_cons_succ] at hP5_c0 hP5_c1 hP5_c2 hP5_c3 hP5_c4 hP5_c5
    (try clear hK7_c0); (try clear hK7_f0)
    (try clear hK7_c1); (try clear hK7_f1)
    (try clear hK7_c2); (try clear hK7_f2)
    (try clear hK7_c3); (try clear hK7_f3)
    (try clear hK7_c4); (try clear hK7_f4)
    (try clear hK7_c5); (try clear hK7_f5)
    (try clear hK7_lt)
    have hK7_lt := hK7.lt; (try simp only [World.size_alloc] at hK7_lt)
    have hK7_c0 := hK7.cell 0; have hK7_f0 := hK7.frozen 0
    have hK7_c1 := hK7.cell 1; have hK7_f1 := hK7.frozen 1
    have hK7_c2 := hK7.cell 2; have hK7_f2 := hK7.frozen 2
    have hK7_c3 := hK7.cell 3; have hK7_f3 := hK7.frozen 3
    have hK7_c4 := hK7.cell 4; have hK7_f4 := hK7.frozen 4
    have hK7_c5 := hK7.cell 5; have hK7_f5 := hK7.frozen 5
    simp only [List.getElem?_toArray, List.getElem?_cons_zero, List.getElem?_cons_succ] at hK7_c0 hK7_c1 hK7_c2 hK7_c3 hK7_c4 hK7_c5
    (try clear hP7_c0); (try clear hP7_f0)
    (try clear hP7_c1); (try clear hP7_f1)
    (try clear hP7_c2); (try clear hP7_f2)
    (try clear hP7_c3); (try clear hP7_f3)
    (try clear hP7_c4); (try clear hP7_f4)
    (try clear hP7_c5); (try clear hP7_f5)
    (try clear hP7_lt)
    have hP7_lt := hP7.lt; (try simp only [World.size_alloc] at hP7_lt)
    have hP7_c0 := hP7.cell 0; have hP7_f0 := hP7.frozen 0
    have hP7_c1 := hP7.cell 1; have hP7_f1 := hP7.frozen 1
    have hP7_c2 := hP7.cell 2; have hP7_f2 := hP7.frozen 2
    have hP7_c3 := hP7.cell 3; have hP7_f3 := hP7.frozen 3
    have hP7_c4 := hP7.cell 4; have hP7_f4 := hP7.frozen 4
    have hP7_c5 := hP7.cell 5; have hP7_f5 := hP7.frozen 5
    simp only [List.getElem?_toArray, List.getElem?_cons_zero, List.getElem?_cons_succ] at hP7_c0 hP7_c1 hP7_c2 hP7_c3 hP7_c4 hP7_c5
    (try clear hX7_c0); (try clear hX7_f0)
    (try clear hX7_c1); (try clear hX7_f1)
    (try clear hX7_c2); (try clear hX7_f2)
    (try clear hX7_lt)
    have hX7_lt := hX7.lt; (try simp only [World.size_alloc] at hX7_lt)
    have hX7_c0 := hX7.cell 0; have hX7_f0 := hX7.frozen 0
    have hX7_c1 := hX7.cell 1; have hX7_f1 := hX7.frozen 1
    have hX7_c2 := hX7.cell 2; have hX7_f2 := hX7.frozen 2
    simp only [List.getElem?_toArray, List.getElem?_cons_zero, List.getElem?_cons_succ] at hX7_c0 hX7_c1 hX7_c2
    go_wp2_with fail
    go_region_held3 (fun w' => w'.cell? ⟨g, 0, none⟩ = some (.int .i64 4) ∧ w'.cell? ⟨g, 1, none⟩ = some (.int .i64 co) ∧ w'.cell? ⟨g, 2, none⟩ = some (.slice A n c) ∧ w'.cell? ⟨g, 3, none⟩ = some (.int .i64 nx) ∧ w'.cell? ⟨g, 4, none⟩ = some (.int .i64 lo) ∧ w'.cell? ⟨g, 5, none⟩ = some (.bool wt) ∧ w'.cell? ⟨gp, 0, none⟩ = some (.int .i64 a) ∧ w'.cell? ⟨gp, 1, none⟩ = some (.int .i64 b) ∧ w'.cell? ⟨gp, 2, none⟩ = some (.int .i64 0) ∧ w'.cell? ⟨gp, 3, none⟩ = some (.int .i64 100) ∧ w'.cell? ⟨gp, 4, none⟩ = some (.bool ky) ∧ w'.cell? ⟨gp, 5, none⟩ = some (.bool false)) (first | with_reducible exact ⟨hK5_c0, hK5_c1, hK5_c2, hK5_c3, hK5_c4, hK5_c5, hP5_c0, hP5_c1, hP5_c2, hP5_c3, hP5_c4, hP5_c5⟩ | with_reducible exact ⟨hK7_c0, hK7_c1, hK7_c2, hK7_c3, hK7_c4, hK7_c5, hP7_c0, hP7_c1, hP7_c2, hP7_c3, hP7_c4, hP7_c5⟩ | with_reducible exact ⟨hK6_c0, hK6_c1, hK6_c2, hK6_c3, hK6_c4, hK6_c5, hP6_c0, hP6_c1, hP6_c2, hP6_c3, hP6_c4, hP6_c5⟩ | with_reducible exact ⟨by (repeat (rw [World.cell?_setCell_other _ _ _ _ (fun e => by injection e; omega)])); with_reducible assumption, by (repeat (rw [World.cell?_setCell_other _ _ _ _ (fun e => by injection e; omega)])); with_reducible assumption, by (repeat (rw [World.cell?_setCell_other _ _ _ _ (fun e => by injection e; omega)])); with_reducible assumption, by (repeat (rw [World.cell?_setCell_other _ _ _ _ (fun e => by injection e; omega)])); with_reducible assumption, by (repeat (rw [World.cell?_setCell_other _ _ _ _ (fun e => by injection e; omega)])); with_reducible assumption, by (repeat (rw [World.cell?_setCell_other _ _ _ _ (fun e => by injection e; omega)])); with_reducible assumption, by (repeat (rw [World.cell?_setCell_other _ _ _ _ (fun e => by injection e; omega)])); with_reducible assumption, by (repeat (rw [World.cell?_setCell_other _ _ _ _ (fun e => by injection e; omega)])); with_reducible assumption, by (repeat (rw [World.cell?_setCell_other _ _ _ _ (fun e => by injection e; omega)])); with_reducible assumption, by (repeat (rw [World.cell?_setCell_other _ _ _ _ (fun e => by injection e; omega)])); with_reducible assumption, by (repeat (rw [World.cell?_setCell_other _ _ _ _ (fun e => by injection e; omega)])); with_reducible assumption, by (repeat (rw [World.cell?_setCell_other _ _ _ _ (fun e => by injection e; omega)])); with_reducible assumption⟩ | go_keep)
      ((go_at_call 88
        refine (HP.out _ (by first | exact hB1.drew | exact (hB1.alloc hBs _).drew)).mono ?_
        rintro e w5 ⟨rfl, hb5⟩
        have hK6 : Bk w5 g 38 #[.int .i64 4, .int .i64 co, .slice A n c, .int .i64 nx, .int .i64 lo, .bool wt] := by first | exact hK5.below hb5 hK5.lt | exact hK7.below hb5 hK7.lt
        have hP6 : Bk w5 gp 81 #[.int .i64 a, .int .i64 b, .int .i64 0, .int .i64 100, .bool ky, .bool false] := by first | exact hP5.below hb5 hP5.lt | exact hP7.below hb5 hP7.lt
        have hB5 : Below w.heap.size w w5 := by first | exact hB1.drew.trans (hb5.mono hBs) | exact (hB1.alloc hBs _).drew.trans (hb5.mono (by simp; omega))
        have hK6_lt := hK6.lt; have hK6_c0 := hK6.cell 0; have hK6_f0 := hK6.frozen 0; have hK6_c1 := hK6.cell 1; have hK6_f1 := hK6.frozen 1; have hK6_c2 := hK6.cell 2; have hK6_f2 := hK6.frozen 2; have hK6_c3 := hK6.cell 3; have hK6_f3 := hK6.frozen 3; have hK6_c4 := hK6.cell 4; have hK6_f4 := hK6.frozen 4; have hK6_c5 := hK6.cell 5; have hK6_f5 := hK6.frozen 5; simp only [List.getElem?_toArray, List.getElem?_cons_zero, List.getElem?_cons_succ] at hK6_c0 hK6_c1 hK6_c2 hK6_c3 hK6_c4 hK6_c5; have hP6_lt := hP6.lt; have hP6_c0 := hP6.cell 0; have hP6_f0 := hP6.frozen 0; have hP6_c1 := hP6.cell 1; have hP6_f1 := hP6.frozen 1; have hP6_c2 := hP6.cell 2; have hP6_f2 := hP6.frozen 2; have hP6_c3 := hP6.cell 3; have hP6_f3 := hP6.frozen 3; have hP6_c4 := hP6.cell 4; have hP6_f4 := hP6.frozen 4; have hP6_c5 := hP6.cell 5; have hP6_f5 := hP6.frozen 5; simp only [List.getElem?_toArray, List.getElem?_cons_zero, List.getElem?_cons_succ] at hP6_c0 hP6_c1 hP6_c2 hP6_c3 hP6_c4 hP6_c5
        have hne6 := World.new_ne _ _ hK6_c0
        have hne7 := World.new_ne _ _ hP6_c0
        (try (have hX6 : Bk w5 W1.heap.size 34 #[.int .i64 0, .int .i64 0, .slice none 0 0] := hX7.below hb5 hX7.lt; have hX6_lt := hX6.lt; have hX6_c0 := hX6.cell 0; have hX6_f0 := hX6.frozen 0; have hX6_c1 := hX6.cell 1; have hX6_f1 := hX6.frozen 1; have hX6_c2 := hX6.cell 2; have hX6_f2 := hX6.frozen 2; simp only [List.getElem?_toArray, List.getElem?_cons_zero, List.getElem?_cons_succ] at hX6_c0 hX6_c1 hX6_c2))))
    rotate_left
    · go_wp2
      exact HE.out _ (by repeat (first | with_reducible exact hB1.size | with_reducible exact hB5 | with_reducible exact hB5.size | with_reducible exact le1 w | with_reducible exact le2 w | with_reducible exact le3 w | with_reducible refine Below.setCell ?_ ?_ _ | with_reducible refine Below.alloc ?_ ?_ _ | with_reducible refine Below.drewN' ?_ _ | with_reducible refine Below.drew ?_ | with_reducible exact Nat.le_refl _ | with_reducible refine le_set ?_ | with_reducible refine le_all ?_))
    · go_wp2
      exact HE.out _ (by repeat (first | with_reducible exact hB1.size | with_reducible exact hB5 | with_reducible exact hB5.size | with_reducible exact le1 w | with_reducible exact le2 w | with_reducible exact le3 w | with_reducible refine Below.setCell ?_ ?_ _ | with_reducible refine Below.alloc ?_ ?_ _ | with_reducible refine Below.drewN' ?_ _ | with_reducible refine Below.drew ?_ | with_reducible exact Nat.le_refl _ | with_reducible refine le_set ?_ | with_reducible refine le_all ?_))

theorem mstore_any (s : Sc) (ky : Bool) (a b : Int) (g : Nat) (An : Option Addr) (cn : Nat) (w : World) (h : MQ s g w) (hok : scOk s) (hn : Ints w w.heap.size An 2 [a, b]) :
    Calls Tryz.prog 76 #[.pointer (some ⟨g, 0, none⟩), .slice An 2 cn, .bool ky] w (MRet (putS s ky a b) g w) := by
  by_cases hin : RpIn 4 s.co s.xs ⟨a, b, 0, 100, ky, false⟩
  · exact mstore_yes s ky a b g An cn w h hok hn hin
  · exact mstore_no s ky a b g An cn w h hok hn hin

set_option maxHeartbeats 1000000 in
theorem mkey_any (s : Sc) (a b : Int) (g : Nat) (An : Option Addr) (cn : Nat) (w : World) (h : MQ s g w) (hok : scOk s) (hn : Ints w w.heap.size An 2 [a, b]) :
    Calls Tryz.prog 57 #[.pointer (some ⟨g, 0, none⟩), .slice An 2 cn] w (MRet (putS s true a b) g w) := by
  have HS := Lib.hid (mstore_any s true a b g An cn w h hok hn)
  unfold MRet at HS ⊢
  generalize putS s true a b = r at *
  clear h hn hok
  go_enter Tryz.func57, Tryz.ntmps57
  go_wp2_with (go_at_call 76; refine HS.out.mono ?_; rintro e w1 ⟨rfl, hq, ho⟩)
  go_ret
  exact ⟨rfl, hq, ho⟩

set_option maxHeartbeats 1000000 in
theorem mput_any (s : Sc) (a b : Int) (g : Nat) (An : Option Addr) (cn : Nat) (w : World) (h : MQ s g w) (hok : scOk s) (hn : Ints w w.heap.size An 2 [a, b]) :
    Calls Tryz.prog 58 #[.pointer (some ⟨g, 0, none⟩), .slice An 2 cn] w (MRet (putS s false a b) g w) := by
  have HS := Lib.hid (mstore_any s false a b g An cn w h hok hn)
  unfold MRet at HS ⊢
  generalize putS s false a b = r at *
  clear h hn hok
  go_enter Tryz.func58, Tryz.ntmps58
  go_wp2_with (go_at_call 76; refine HS.out.mono ?_; rintro e w1 ⟨rfl, hq, ho⟩)
  go_ret
  exact ⟨rfl, hq, ho⟩

end Go.Proofs.YthbkmnladaneaaaGreatDoor
