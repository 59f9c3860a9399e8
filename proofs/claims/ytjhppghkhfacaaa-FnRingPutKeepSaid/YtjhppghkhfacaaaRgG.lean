/-
  Rings: the drawn ring.
  Conditions: the code's memory.
-/
import Derived.Test.YtjhppghkhfacaaaRgE
import Derived.Test.YtjhppghkhfacaaaRgF
import Derived.Test.YtjhppghkhfacaaaSet
namespace Go.Proofs.Ytjhppghkhfacaaa
open Go.RowKit
set_option linter.unusedVariables false
set_option linter.unusedSimpArgs false

/-- What the slots hold of the region that puts a packet. -/
def IRg (T N g : Nat) (ro co : Int) (A LA : Option Addr) (n c L lc k lb lo : Nat) (x : Pk) : Nat → Value → World → Prop
  | 0, u, _ => u = .agg #[.int .i64 ro, .int .i64 co, .slice A n c]
  | 1, u, _ => u = .slice LA L lc
  | 2, u, _ => u = .int .i64 k
  | 3, u, _ => u = .pointer (some ⟨lb, lo + k * 6, none⟩)
  | 4, u, _ => u = .agg #[.int .i64 x.wi, .int .i64 x.ti, .int .i64 x.la, .int .i64 x.si, .bool x.ky, .bool x.en]
  | 5, u, w => ∃ a b q r, u = .tuple #[.agg #[a, b, q], .bool r] ∧ RiF 0 N a b q w
  | 6, u, w => ∃ a b q r, u = .tuple #[.agg #[a, b, q], .bool r] ∧ RiF 0 N a b q w
  | 7, u, w => ∃ a b q, u = .agg #[a, b, q] ∧ RiF 0 N a b q w
  | 8, u, _ => ∃ r, u = .bool r
  | 9, u, w => ∃ b, u = .pointer (some ⟨b, 0, none⟩) ∧ N ≤ b ∧ RiB T N w b
  | 10, _, _ => True
  | 11, u, _ => ∃ r, u = .bool r
  | _, _, _ => True
theorem IRg.mono {T N g : Nat} {ro co : Int} {A LA : Option Addr} {n c L lc k lb lo : Nat} {x : Pk} (j : Nat) (v : Value) (w w' : World) (ho : StR T N g w w') (h : IRg T N g ro co A LA n c L lc k lb lo x j v w) : IRg T N g ro co A LA n c L lc k lb lo x j v w' := by
  unfold IRg at *
  split at h
  all_goals try exact h
  · obtain ⟨a, b, q, r, h1, h2⟩ := h
    exact ⟨a, b, q, r, h1, h2.st ho⟩
  · obtain ⟨a, b, q, r, h1, h2⟩ := h
    exact ⟨a, b, q, r, h1, h2.st ho⟩
  · obtain ⟨a, b, q, h1, h2⟩ := h
    exact ⟨a, b, q, h1, h2.st ho⟩
  · obtain ⟨b, h1, h2, h3⟩ := h
    exact ⟨b, h1, h2, ho.rb b h2 h3⟩
/-- What the slots hold of the region that turns the count. -/
def IRc (N g gs : Nat) (co : Int) : Nat → Value → World → Prop
  | 0, v, _ => v = .pointer (some ⟨gs, 1, none⟩)
  | 1, v, _ => v = .int .i64 co
  | 2, v, _ => v = .int .i64 (co + 1)
  | 3, v, w => LRow N 3 [-1, co + 1, 999999] v w
  | 4, v, _ => v = .pointer (some ⟨g, 0, none⟩)
  | 5, v, _ => VInt 0 2 v
  | 6, v, w => LCell N 3 [-1, co + 1, 999999] v w
  | 7, v, _ => VInt (-1) 1000000 v
  | 8, v, _ => v = .pointer (some ⟨gs, 1, none⟩)
  | _, _, _ => True
theorem IRc.but {N g gs : Nat} {co : Int} (hN : g < N ∧ gs < N) (j : Nat) (v : Value) (w w' : World) (ho : But (fun k => k = g ∨ k = gs) w w') (h : IRc N g gs co j v w) : IRc N g gs co j v w' := by
  unfold IRc at *
  split at h <;> first | exact LRow.but h ho (by omega) | exact LCell.but h ho (by omega) | exact h

/-- A ring was drawn. -/
def RingDrawn (B g K : Nat) (w : World) (y : Ending) (w' : World) : Prop := ∃ a b u, y = .returned (.agg #[a, b, u]) ∧ RiF 1 w.heap.size a b u w' ∧ Rd w' B g K ∧ Only g w w'
theorem Only.fresh {g N : Nat} {w w' : World} {X : Nat → Prop} (h : Only g w w') (w2 : World) (hb : But X w' w2) (hX : ∀ k, X k → k = g ∨ w.heap.size ≤ k) : Only g w w2 :=
  ⟨hb.os.trans h.os, hb.tape.trans h.tape, hb.output.trans h.output, Nat.le_trans h.size hb.size, fun i hi hn => (hb.block i (Nat.lt_of_lt_of_le hi h.size) (fun hx => by rcases hX i hx with h1 | h1; exact hn h1; omega)).trans (h.block i hi hn)⟩

set_option maxHeartbeats 8000000 in
theorem l91Ring_any (B g K : Nat) (w : World) (h : Rd w B g K) (hK : K ≤ 1099511500000) :
    Calls Try.prog 21 #[.pointer (some ⟨g, 0, none⟩)] w (RingDrawn B g (K + 3000) w) := by
  have hl := h.lt
  have hres := Bk.new w 25 #[.int .i64 0, .int .i64 0, .slice none 0 0]
  have hall0 := fun o => (Below.refl w.heap.size w).alloc (Nat.le_refl _) o
  go_enter Try.func21, Try.ntmps21
  go_wp2_with fail
  go_wp2_with fail
  refine (pick_any _ _ _ _ _ (h.below (hall0 _)) (by omega) (by omega)).mono ?_
  rintro e w_p ⟨p, rfl, p_0, p_1, hrd_p, ho_p, hsz_p⟩
  have p_u := p_1 (by omega)
  have hlt_p := hrd_p.lt
  clear p_1
  have hO : Only g w w_p := (Only.of_below (hall0 _)).trans ho_p
  replace hres := hres.only ho_p (by first | omega | (simp; done) | (simp; omega))
  have hres_l : w.heap.size < w_p.heap.size := hres.lt
  have hgl_p : g < w_p.heap.size := hrd_p.lt.2
  clear ho_p hsz_p h hall0
  go_wp2_with fail
  have hS := Bk.new (w_p.alloc (.cells #[] 27)) 25 #[.int .i64 (1 + p), .int .i64 0, .slice (some ⟨w_p.heap.size, 0, none⟩) 0 0]
  have hall2 : Below w_p.heap.size w_p ((w_p.alloc (.cells #[] 27)).alloc (.cells #[.int .i64 (1 + p), .int .i64 0, .slice (some ⟨w_p.heap.size, 0, none⟩) 0 0] 25)) := (by repeat (first | exact Below.refl _ _ | assumption | refine Below.setCell ?_ (by first | omega | (simp; done) | (simp; omega)) _ | refine Below.alloc ?_ (by first | omega | (simp; done) | (simp; omega)) _ | refine Below.drew ?_ | refine Below.drewN' ?_ _ | refine Below.trans ?_ (Below.mono (by assumption) (by first | omega | (simp; done) | (simp; omega)))))
  refine (l91Packets_any _ _ _ 12 _ (hrd_p.below hall2) (by omega) (by omega)).mono ?_
  rintro e w_t ⟨lv, ls, rfl, hls, hlo, hrd_t, ho_t⟩
  replace hO : Only g w w_t := (hO.trans (Only.of_below hall2)).trans ho_t
  replace hres := (hres.below hall2 hres.lt).only ho_t (by omega)
  replace hS := hS.only ho_t (by simp; omega)
  simp only [World.size_alloc] at hS hlo
  obtain ⟨gs, hgs⟩ : ∃ gs, w_p.heap.size + 1 = gs := ⟨_, rfl⟩
  have hgsw : w.heap.size < gs := by omega
  have hggs : g ≠ gs := by omega
  have hLfr := fun k hk => (hlo.lt k hk)
  obtain ⟨LA, lc, rfl, hlnc, hlc, hlsl⟩ := own_shape hlo
  have hLF : ∀ k o, LA = some ⟨k, o, none⟩ → k ≠ g ∧ k ≠ gs ∧ k ≠ w.heap.size := fun k o e => by
    have := (hLfr k (by rw [e]; rfl)).1
    omega
  have hLP : Pks w_t w_t.heap.size LA ls.length ls := hlsl
  have HLL := Lib.hid hls
  clear hlo hlsl hLfr ho_t hall2 hrd_p
  rw [hgs] at hS
  generalize hL : ls.length = L at *
  have hL12 : L ≤ 12 := HLL.out
  go_wp2_with fail
  clear hgs
  go_loopw [5] (fun i wr => ∃ (k : Nat) (ro co : Int) (A : Option Addr) (n c : Nat) (xs : List Pk), k ≤ L ∧ i = .int .i64 k ∧ Bk wr gs 25 #[.int .i64 ro, .int .i64 co, .slice A n c] ∧ (n ≤ 8 ∧ n ≤ c ∧ c ≤ maxLen ∧ 0 ≤ co ∧ co ≤ 999999) ∧ Pks wr wr.heap.size A n xs ∧ Fr w.heap.size A ∧ Bk wr w.heap.size 25 #[.int .i64 0, .int .i64 0, .slice none 0 0] ∧ Pks wr wr.heap.size LA L ls ∧ Rd wr B g (K + 1002) ∧ Only g w wr) (fun i _ => L - (intOf i).toNat)
  case atStart => exact ⟨0, _, _, _, 0, 0, [], by omega, rfl, hS, ⟨by omega, by omega, by unfold maxLen; omega, by omega, by omega⟩, ⟨rfl, fun h => absurd h (by omega)⟩, fun b o s e => by injection e with e; injection e with e1 e2; omega, hres, hLP, hrd_t.more (by omega), hO⟩
  case round =>
    obtain ⟨k, ro, co, A, n, c, xs, hk, rfl, hS, ⟨hn8, hnc, hc, hco0, hco1⟩, hpk, hfr, hres, hLP, hrd, hO⟩ := hrel
    by_cases hlt : k < L
    · have e0 : decide ((k : Int) < (L : Nat)) = true := by simp; omega
      obtain ⟨x, hx⟩ : ∃ x, ls[k]? = some x := ⟨_, List.getElem?_eq_getElem (by omega)⟩
      obtain ⟨lb, lo, rfl, hlb, hlcell⟩ := hLP.addr (by omega)
      have hlc0 := hlcell k x hx
      have hlbn := hLF lb lo rfl
      have hk0 : (0 : Int) ≤ (k : Int) := Int.natCast_nonneg _
      have hk1 : (k : Int) < (L : Int) := by omega
      have hfar := pks_far hpk hS
      have hsz := hS.lt
      have hrl := hres.lt
      have hgN : g < wr.heap.size := hrd.lt.2
      have HPK := Lib.hid hpk
      have HLP := Lib.hid hLP
      generalize hN : wr.heap.size = N at *
      have hAlt : ∀ k' o, A = some ⟨k', o, none⟩ → 0 < n → ¬ (k' = g ∨ N ≤ k') := fun k' o e hn0 hx' => by
        obtain ⟨b', off, e', hb', -⟩ := hpk.2 hn0
        rw [e] at e'
        injection e' with e'
        injection e' with e1 e2
        have h1 := hfr k' o none e
        have h2 := hl.2
        omega
      clear hlcell hpk hLP
      go_wp2_with fail
      refine wp_region_inv (fun m w' => Rd w' B g (K + 1002) ∧ StR 25 N g wr w') (StR 25 N g) (IRg 25 N g ro co A (some ⟨lb, lo, none⟩) n c L lc k lb lo x) (by kernel_rfl) (by kernel_rfl) (by kernel_rfl) ⟨Rd.drew hrd, StR.drew (StR.refl _ _ _ _)⟩ IRg.mono ⟨?_, ?_, ?_, ?_, ?_, ?_, ?_, ?_, ?_, ?_, ?_, ?_, trivial⟩ ?_
      · intro m y wv hm hb hd
        have hp := hS.but hb.2.but (by show ¬ (gs = g ∨ N ≤ gs); omega)
        (try clear hp_c0); (try clear hp_f0)
        (try clear hp_c1); (try clear hp_f1)
        (try clear hp_c2); (try clear hp_f2)
        (try clear hp_lt)
        have hp_lt := hp.lt; (try simp only [World.size_alloc] at hp_lt)
        have hp_c0 := hp.cell 0; have hp_f0 := hp.frozen 0
        have hp_c1 := hp.cell 1; have hp_f1 := hp.frozen 1
        have hp_c2 := hp.cell 2; have hp_f2 := hp.frozen 2
        simp only [List.getElem?_toArray, List.getElem?_cons_zero, List.getElem?_cons_succ] at hp_c0 hp_c1 hp_c2
        have HB := Lib.hid hb
        clear hd hb
        refine ⟨?_⟩
        simp only [fill, Act.put, List.setIfInBounds_toArray, List.set_cons_zero, List.set_cons_succ]
        go_simp
        exact ⟨StR.refl _ _ _ _, HB.out, rfl⟩
      · intro m y wv hm hb hd
        have HB := Lib.hid hb
        clear hd hb
        refine ⟨?_⟩
        simp only [fill, Act.put, List.setIfInBounds_toArray, List.set_cons_zero, List.set_cons_succ]
        go_simp
        exact ⟨StR.refl _ _ _ _, HB.out, rfl⟩
      · intro m y wv hm hb hd
        have HB := Lib.hid hb
        clear hd hb
        refine ⟨?_⟩
        simp only [fill, Act.put, List.setIfInBounds_toArray, List.set_cons_zero, List.set_cons_succ]
        go_simp
        exact ⟨StR.refl _ _ _ _, HB.out, rfl⟩
      · intro m y wv hm hb hd
        have d1 := hd { on := 1, ground := .data } (by simp) (by kernel_rfl)
        replace d1 : y 1 = .slice (some ⟨lb, lo, none⟩) L lc := d1
        have d2 := hd { on := 2, ground := .data } (by simp) (by kernel_rfl)
        replace d2 : y 2 = .int .i64 k := d2
        have HB := Lib.hid hb
        clear hd hb
        refine ⟨?_⟩
        simp only [fill, Act.put, List.setIfInBounds_toArray, List.set_cons_zero, List.set_cons_succ]
        go_simp
        exact ⟨StR.refl _ _ _ _, HB.out, rfl⟩
      · intro m y wv hm hb hd
        have d3 := hd { on := 3, ground := .data } (by simp) (by kernel_rfl)
        replace d3 : y 3 = .pointer (some ⟨lb, lo + k * 6, none⟩) := d3
        have hbt := hb.2.but
        have hX : ¬ (lb = g ∨ N ≤ lb) := by omega
        obtain ⟨c0, c1, c2, c3, c4, c5⟩ := hlc0
        replace c0 := hbt.cell c0 hX
        replace c1 := hbt.cell c1 hX
        replace c2 := hbt.cell c2 hX
        replace c3 := hbt.cell c3 hX
        replace c4 := hbt.cell c4 hX
        replace c5 := hbt.cell c5 hX
        have HB := Lib.hid hb
        clear hd hb hbt
        refine ⟨?_⟩
        simp only [fill, Act.put, List.setIfInBounds_toArray, List.set_cons_zero, List.set_cons_succ]
        go_simp
        exact ⟨StR.refl _ _ _ _, HB.out, rfl⟩
      · intro m y wv hm hb hd
        have d0 := hd { on := 0, ground := .data } (by simp) (by kernel_rfl)
        replace d0 : y 0 = .agg #[.int .i64 ro, .int .i64 co, .slice A n c] := d0
        have d4 := hd { on := 4, ground := .data } (by simp) (by kernel_rfl)
        replace d4 : y 4 = .agg #[.int .i64 x.wi, .int .i64 x.ti, .int .i64 x.la, .int .i64 x.si, .bool x.ky, .bool x.en] := d4
        obtain ⟨hcr, hco⟩ := hb
        have hsv := hco.but.size
        have hws : Pks wv wv.heap.size A n xs := (HPK.out.but0 hco.but hAlt).more (by omega)
        have HO := Lib.hid hco
        have HW := Lib.hid hws
        clear hd hco hws
        refine ⟨?_⟩
        simp only [fill, Act.put, List.setIfInBounds_toArray, List.set_cons_zero, List.set_cons_succ]
        go_simp
        refine (srp_all ro co A n c xs x wv HW.out (by omega) hnc hc).mono ?_
        rintro e w2 ⟨a, b, q, r, rfl, hpf, hb2⟩
        have hst := StR.of_new (T := 25) (N := N) (g := g) hb2
        have hpf2 : RiF 0 N a b q w2 := hpf.pk (Nat.le_refl _) (by omega) (fun _ _ _ h _ => h)
        exact ⟨hst, ⟨hcr.below hb2, HO.out.trans hst⟩, a, b, q, r, rfl, hpf2⟩
      · intro m y wv hm hb hd
        have d3 := hd { on := 5, ground := .data } (by simp) (by kernel_rfl)
        obtain ⟨a, b, q, r, d3, hpf⟩ := d3
        have HPF := Lib.hid hpf
        have HB := Lib.hid hb
        clear hd hb hpf
        refine ⟨?_⟩
        simp only [fill, Act.put, List.setIfInBounds_toArray, List.set_cons_zero, List.set_cons_succ]
        go_simp
        exact ⟨StR.refl _ _ _ _, HB.out, _, _, _, _, rfl, HPF.out⟩
      · intro m y wv hm hb hd
        have d3 := hd { on := 6, ground := .data } (by simp) (by kernel_rfl)
        obtain ⟨a, b, q, r, d3, hpf⟩ := d3
        have HPF := Lib.hid hpf
        have HB := Lib.hid hb
        clear hd hb hpf
        refine ⟨?_⟩
        simp only [fill, Act.put, List.setIfInBounds_toArray, List.set_cons_zero, List.set_cons_succ]
        go_simp
        exact ⟨StR.refl _ _ _ _, HB.out, _, _, _, rfl, HPF.out⟩
      · intro m y wv hm hb hd
        have d3 := hd { on := 6, ground := .data } (by simp) (by kernel_rfl)
        obtain ⟨a, b, q, r, d3, hpf⟩ := d3
        have HB := Lib.hid hb
        clear hd hb hpf
        refine ⟨?_⟩
        simp only [fill, Act.put, List.setIfInBounds_toArray, List.set_cons_zero, List.set_cons_succ]
        go_simp
        exact ⟨StR.refl _ _ _ _, HB.out, _, rfl⟩
      · intro m y wv hm hb hd
        have hsv := hb.2.but.size
        have HB := Lib.hid hb
        clear hd hb
        refine ⟨?_⟩
        simp only [fill, Act.put, List.setIfInBounds_toArray, List.set_cons_zero, List.set_cons_succ]
        go_simp
        exact ⟨(StR.refl _ _ _ _).alloc _, ⟨HB.out.1.below ((Below.refl _ _).alloc (Nat.le_refl _) _), HB.out.2.alloc _⟩, _, rfl, by omega, _, _, _, Bk.new _ _ _, RiF.zero _ _⟩
      · intro m y wv hm hb hd
        have d7 := hd { on := 9, ground := .data } (by simp) (by kernel_rfl)
        obtain ⟨b, d7, hbN, v0, v1, v2, hbk, -⟩ := d7
        have d5 := hd { on := 7, ground := .data } (by simp) (by kernel_rfl)
        obtain ⟨a1, a2, q, d5, hpf⟩ := d5
        have hst := StR.store (T := 25) (g := g) hbN hbk hpf
        obtain ⟨ro2, co2, A2, n2, c2, xs2, rfl, rfl, rfl, -⟩ := hpf
        obtain ⟨hcr, hco⟩ := hb
        have HST := Lib.hid hst
        have HO := Lib.hid (hco.trans hst)
        have hgl := hcr.lt
        have HR := Lib.hid (show Rd (((wv.setCell ⟨b, 0, none⟩ (.int .i64 ro2)).setCell ⟨b, 1, none⟩ (.int .i64 co2)).setCell ⟨b, 2, none⟩ (.slice A2 n2 c2)) B g (K + 1002) from Rd.setCell (Rd.setCell (Rd.setCell hcr (by show g < b; omega) _) (by show g < b; omega) _) (by show g < b; omega) _)
        (try clear hbk_c0); (try clear hbk_f0)
        (try clear hbk_c1); (try clear hbk_f1)
        (try clear hbk_c2); (try clear hbk_f2)
        (try clear hbk_lt)
        have hbk_lt := hbk.lt; (try simp only [World.size_alloc] at hbk_lt)
        have hbk_c0 := hbk.cell 0; have hbk_f0 := hbk.frozen 0
        have hbk_c1 := hbk.cell 1; have hbk_f1 := hbk.frozen 1
        have hbk_c2 := hbk.cell 2; have hbk_f2 := hbk.frozen 2
        simp only [List.getElem?_toArray, List.getElem?_cons_zero, List.getElem?_cons_succ] at hbk_c0 hbk_c1 hbk_c2
        clear hd hst hco hcr
        refine ⟨?_⟩
        simp only [fill, Act.put, List.setIfInBounds_toArray, List.set_cons_zero, List.set_cons_succ]
        go_simp
        exact ⟨HST.out, ⟨HR.out, HO.out⟩, undef, trivial⟩
      · intro m y wv hm hb hd
        have d6 := hd { on := 8, ground := .data } (by simp) (by kernel_rfl)
        obtain ⟨r, d6⟩ := d6
        have HB := Lib.hid hb
        clear hd hb
        refine ⟨?_⟩
        simp only [fill, Act.put, List.setIfInBounds_toArray, List.set_cons_zero, List.set_cons_succ]
        go_simp
        exact ⟨StR.refl _ _ _ _, HB.out, r, rfl⟩
      · intro y wv ⟨hcr, hco⟩ hI
        obtain ⟨b, hx7, hbN, v0, v1, v2, hbk, ro', co', A', n', c', xs', rfl, rfl, rfl, hn8', hnc', hc', hco0', hco1', hpk', hfr'⟩ := hI 9 (by decide)
        obtain ⟨r, hx9⟩ := hI 11 (by decide)
        have hco0'' : 0 ≤ co' := by simpa using hco0'
        have hco1'' : co' ≤ 999999 := by simpa using hco1'
        have hgsN : gs < N := hsz
        have hsv := hco.but.size
        have hS2 := hS.but hco.but (by show ¬ (gs = g ∨ N ≤ gs); omega)
        have hres2 := hres.but hco.but (by show ¬ (w.heap.size = g ∨ N ≤ w.heap.size); omega)
        have hO2 : Only g w wv := hO.fresh (N := N) _ hco.but (fun k' h2 => by omega)
        have hA2 : Pks wv wv.heap.size A n xs := (HPK.out.but0 hco.but hAlt).more (by omega)
        have hL2 : Pks wv wv.heap.size (some ⟨lb, lo, none⟩) L ls := (HLP.out.but0 hco.but (fun k' o e _ => by
          injection e with e
          injection e with e1 e2
          omega)).more (by omega)
        have hwN : w.heap.size ≤ N := by omega
        clear hI hco hrd hfar hS hres hO hx
        cases r
        · refine ⟨?_⟩
          simp only [fill, Act.put, List.setIfInBounds_toArray, List.set_cons_zero, List.set_cons_succ, hx7, hx9]
          go_wp2
          go_roundw
          case rel => exact ⟨k + 1, ro, co, A, n, c, xs, by omega, by go_num, hS2, ⟨hn8, hnc, hc, hco0, hco1⟩, hA2, hfr, hres2, hL2, hcr, hO2⟩
          case measure => simp [intOf]; omega
        · have hOs : Only gs wv (((wv.setCell ⟨gs, 0, none⟩ (.int .i64 ro')).setCell ⟨gs, 1, none⟩ (.int .i64 co')).setCell ⟨gs, 2, none⟩ (.slice A' n' c')) := (((Only.refl gs wv).setCell (p := ⟨gs, 0, none⟩) (.inl rfl) _).setCell (p := ⟨gs, 1, none⟩) (.inl rfl) _).setCell (p := ⟨gs, 2, none⟩) (.inl rfl) _
          have HON := Lib.hid ((hpk'.store hS2 hOs).more hOs.size)
          have HLN := Lib.hid ((hL2.store hS2 hOs).more hOs.size)
          have HS3 := Lib.hid (((hS2.set_ 0 (.int .i64 ro')).set_ 1 (.int .i64 co')).set_ 2 (.slice A' n' c'))
          have hfr2 := hfr'.le hwN
          clear hpk' hOs hA2 hL2
          (try clear hbk_c0); (try clear hbk_f0)
          (try clear hbk_c1); (try clear hbk_f1)
          (try clear hbk_c2); (try clear hbk_f2)
          (try clear hbk_lt)
          have hbk_lt := hbk.lt; (try simp only [World.size_alloc] at hbk_lt)
          have hbk_c0 := hbk.cell 0; have hbk_f0 := hbk.frozen 0
          have hbk_c1 := hbk.cell 1; have hbk_f1 := hbk.frozen 1
          have hbk_c2 := hbk.cell 2; have hbk_f2 := hbk.frozen 2
          simp only [List.getElem?_toArray, List.getElem?_cons_zero, List.getElem?_cons_succ] at hbk_c0 hbk_c1 hbk_c2
          (try clear hS2_c0); (try clear hS2_f0)
          (try clear hS2_c1); (try clear hS2_f1)
          (try clear hS2_c2); (try clear hS2_f2)
          (try clear hS2_lt)
          have hS2_lt := hS2.lt; (try simp only [World.size_alloc] at hS2_lt)
          have hS2_c0 := hS2.cell 0; have hS2_f0 := hS2.frozen 0
          have hS2_c1 := hS2.cell 1; have hS2_f1 := hS2.frozen 1
          have hS2_c2 := hS2.cell 2; have hS2_f2 := hS2.frozen 2
          simp only [List.getElem?_toArray, List.getElem?_cons_zero, List.getElem?_cons_succ] at hS2_c0 hS2_c1 hS2_c2
          refine ⟨?_⟩
          simp only [fill, Act.put, List.setIfInBounds_toArray, List.set_cons_zero, List.set_cons_succ, hx7, hx9]
          go_wp2
          go_roundw
          case rel =>
            refine ⟨k + 1, ro', co', A', n', c', xs', by omega, by go_num, by simpa using HS3.out, ⟨hn8', hnc', hc', hco0'', hco1''⟩, HON.out, hfr2, ?_, HLN.out, ?_, ?_⟩
            · repeat (first | with_reducible exact hres2 | refine Bk.far ?_ (by show w.heap.size ≠ gs; omega) _)
            · repeat (first | with_reducible exact hcr | refine Rd.setCell ?_ (by first | (show g < gs; omega) | (show g ≠ gs; omega)) _)
            · repeat (first | with_reducible exact hO2 | refine Only.setCell ?_ (.inr (by show w.heap.size ≤ gs; omega)) _)
          case measure => simp [intOf]; omega
    · have e0 : decide ((k : Int) < (L : Nat)) = false := by simp; omega
      have hkn : k = L := by omega
      subst hkn
      have hSl := hS.lt
      have hrl := hres.lt
      clear hLP HLL hLF
      go_wp2_with fail
      go_wp2_with fail
      refine (pick_any _ _ _ _ _ hrd (by omega) (by omega)).mono ?_
      rintro e w_v ⟨v, rfl, v_0, v_1, hrd_v, ho_v, hsz_v⟩
      have v_u := v_1 (by omega)
      have hlt_v := hrd_v.lt
      clear v_1
      have hO3 : Only g w w_v := hO.trans ho_v
      have hpk2 : Pks w_v w_v.heap.size A n xs := (hpk.but0 (But.of_only (X := fun k => k = g) ho_v rfl) (fun k' o e _ he => by have := hfr k' o none e; have := hl.2; omega)).more ho_v.size
      replace hS := hS.only ho_v (by first | omega | (simp; done) | (simp; omega))
      (try clear hS_c0); (try clear hS_f0)
      (try clear hS_c1); (try clear hS_f1)
      (try clear hS_c2); (try clear hS_f2)
      (try clear hS_lt)
      have hS_lt := hS.lt; (try simp only [World.size_alloc] at hS_lt)
      have hS_c0 := hS.cell 0; have hS_f0 := hS.frozen 0
      have hS_c1 := hS.cell 1; have hS_f1 := hS.frozen 1
      have hS_c2 := hS.cell 2; have hS_f2 := hS.frozen 2
      simp only [List.getElem?_toArray, List.getElem?_cons_zero, List.getElem?_cons_succ] at hS_c0 hS_c1 hS_c2
      replace hres := hres.only ho_v (by first | omega | (simp; done) | (simp; omega))
      (try clear hres_c0); (try clear hres_f0)
      (try clear hres_c1); (try clear hres_f1)
      (try clear hres_c2); (try clear hres_f2)
      (try clear hres_lt)
      have hres_lt := hres.lt; (try simp only [World.size_alloc] at hres_lt)
      have hres_c0 := hres.cell 0; have hres_f0 := hres.frozen 0
      have hres_c1 := hres.cell 1; have hres_f1 := hres.frozen 1
      have hres_c2 := hres.cell 2; have hres_f2 := hres.frozen 2
      simp only [List.getElem?_toArray, List.getElem?_cons_zero, List.getElem?_cons_succ] at hres_c0 hres_c1 hres_c2
      have hsv := ho_v.size
      have hNE : ∀ k' o, A = some ⟨k', o, none⟩ → 0 < n → ¬ (k' = gs ∨ k' = w.heap.size) := fun k' o e hn0 he => by
        rcases he with he | he
        · exact pks_far hpk2 hS k' o e hn0 he
        · exact pks_far hpk2 hres k' o e hn0 he
      have HPK := Lib.hid hpk2
      clear ho_v hsz_v hrd hpk hpk2 hO
      by_cases h0 : v = 0
      · subst h0
        go_wp2_with fail
        have hnew := Bk.new w_v 3 #[.int .i64 (0), .int .i64 (9)]
        have hall := fun o => (Below.refl w_v.heap.size w_v).alloc (Nat.le_refl _) o
        go_wp2_with fail
        refine (pick_any _ _ _ _ _ (hrd_v.below (hall _)) (by omega) (by omega)).mono ?_
        rintro e w_uu ⟨uu, rfl, uu_0, uu_1, hrd_uu, ho_uu, hsz_uu⟩
        have uu_u := uu_1 (by omega)
        have hlt_uu := hrd_uu.lt
        clear uu_1
        obtain ⟨k', rfl⟩ := Int.eq_ofNat_of_zero_le uu_0
        obtain ⟨z, hz, z0, z1⟩ := lit_cell [0, 9] (0) 9 (hnew.only ho_uu (by omega)) (by decide) (k := k') (by simp; omega)
        have hO4 := (hO3.trans (Only.of_below (hall _))).trans ho_uu
        have hS4 := (hS.below (hall _) hS.lt).only ho_uu (by omega)
        have hres4 := (hres.below (hall _) hres.lt).only ho_uu (by omega)
        have HPK4 := Lib.hid (((HPK.out.below (hall _)).but0 (But.of_only (X := fun k => k = g) ho_uu rfl) (fun k' o e _ he => by have := hfr k' o none e; have := hl.2; omega)).more (Nat.le_trans (hall _).size ho_uu.size))
        clear hnew hall ho_uu hsz_uu hrd_v
        (try clear hS_c0); (try clear hS_f0)
        (try clear hS_c1); (try clear hS_f1)
        (try clear hS_c2); (try clear hS_f2)
        (try clear hS_lt)
        (try clear hres_c0); (try clear hres_f0)
        (try clear hres_c1); (try clear hres_f1)
        (try clear hres_c2); (try clear hres_f2)
        (try clear hres_lt)
        (try clear hS4_c0); (try clear hS4_f0)
        (try clear hS4_c1); (try clear hS4_f1)
        (try clear hS4_c2); (try clear hS4_f2)
        (try clear hS4_lt)
        have hS4_lt := hS4.lt; (try simp only [World.size_alloc] at hS4_lt)
        have hS4_c0 := hS4.cell 0; have hS4_f0 := hS4.frozen 0
        have hS4_c1 := hS4.cell 1; have hS4_f1 := hS4.frozen 1
        have hS4_c2 := hS4.cell 2; have hS4_f2 := hS4.frozen 2
        simp only [List.getElem?_toArray, List.getElem?_cons_zero, List.getElem?_cons_succ] at hS4_c0 hS4_c1 hS4_c2
        (try clear hres4_c0); (try clear hres4_f0)
        (try clear hres4_c1); (try clear hres4_f1)
        (try clear hres4_c2); (try clear hres4_f2)
        (try clear hres4_lt)
        have hres4_lt := hres4.lt; (try simp only [World.size_alloc] at hres4_lt)
        have hres4_c0 := hres4.cell 0; have hres4_f0 := hres4.frozen 0
        have hres4_c1 := hres4.cell 1; have hres4_f1 := hres4.frozen 1
        have hres4_c2 := hres4.cell 2; have hres4_f2 := hres4.frozen 2
        simp only [List.getElem?_toArray, List.getElem?_cons_zero, List.getElem?_cons_succ] at hres4_c0 hres4_c1 hres4_c2
        go_wp2
        refine ⟨rfl, ?_⟩
        apply Exists.intro
        apply And.intro
        · simp [results, Try.results21, go_sem, hres4_c0, hres4_c1, hres4_c2, hS4_c0, hS4_c1, hS4_c2, hres4_lt, hS4_lt]; exact rfl
        · exact ⟨_, _, _, rfl, ⟨_, _, A, n, c, xs, rfl, rfl, rfl, hn8, hnc, hc, by omega, by omega, ((HPK4.out.but0 (X := fun k' => k' = gs ∨ k' = w.heap.size) (by repeat (first | with_reducible exact But.refl _ _ | refine But.setCell ?_ (.inl (by first | exact .inl rfl | exact .inr rfl)) _)) hNE).more (by simp [World.setCell])), hfr⟩, Rd.more (K := K + 1002 + 1 + 1) (by repeat (first | with_reducible exact hrd_uu | refine Rd.setCell ?_ (by first | (show g < gs; omega) | (show g < w.heap.size; omega)) _)) (by omega), (by repeat (first | with_reducible exact hO4 | refine Only.setCell ?_ (.inr (by first | (show w.heap.size ≤ gs; omega) | exact Nat.le_refl _)) _))⟩
      · have g1 : (v == 0) = false := by simpa using h0
        by_cases h1 : v = 1
        · subst h1
          have hgN : g < w_v.heap.size := hrd_v.lt.2
          have hgsN : gs < w_v.heap.size := hS.lt
          have wr1 : IntKind.i64.wrap (co + 1) = co + 1 := by rw [IntKind.wrap_i64]; omega
          go_wp2_with fail
          (try clear hS_c0); (try clear hS_f0)
          (try clear hS_c1); (try clear hS_f1)
          (try clear hS_c2); (try clear hS_f2)
          (try clear hS_lt)
          (try clear hres_c0); (try clear hres_f0)
          (try clear hres_c1); (try clear hres_f1)
          (try clear hres_c2); (try clear hres_f2)
          (try clear hres_lt)
          generalize hNv : w_v.heap.size = N at *
          refine wp_region_use (fun _ => []) (fun _ => []) (fun w' => Bk w' gs 25 #[.int .i64 ro, .int .i64 co, .slice A n c]) [9] (fun m w' => Rd w' B g (K + 1003 + m) ∧ But (fun k => k = g ∨ k = gs) w_v w' ∧ ∃ z : Int, -1 ≤ z ∧ z ≤ 1000000 ∧ Bk w' gs 25 #[.int .i64 ro, .int .i64 z, .slice A n c]) (fun i w1 w2 => But (fun k => k = g ∨ (i = 9 ∧ k = gs)) w1 w2) (IRc N g gs co) (by kernel_rfl) (by kernel_rfl) (by kernel_rfl) ⟨Rd.drew hrd_v, But.drew (But.refl _ _), co, by omega, by omega, hS.drew⟩ hS.drew (by kernel_rfl) (fun i j v w1 w2 _ _ _ hR h => IRc.but ⟨hgN, hgsN⟩ j v w1 w2 (hR.mono fun k _ hx => by rcases hx with h | h; exact .inl h; exact .inr h.2) h) (fun i w1 w2 hi hR hZ => hZ.but hR (by show ¬ (gs = g ∨ (i = 9 ∧ gs = gs)); simp at hi; omega)) ⟨?_, ?_, ?_, ?_, ?_, ?_, ?_, ?_, ?_, ?_, trivial⟩ ?_
          · intro m y wv hm hb hd hz
            have HB := Lib.hid hb
            clear hd hb hz
            refine ⟨?_⟩
            simp only [fill, Act.put, List.setIfInBounds_toArray, List.set_cons_zero, List.set_cons_succ]
            go_simp
            exact ⟨But.refl _ _, ⟨HB.out.1.more (by omega), HB.out.2⟩, rfl⟩
          · intro m y wv hm hb hd hz
            have d0 := hd { on := 0, ground := .data } (by simp) (by kernel_rfl) (by kernel_rfl)
            replace d0 : y 0 = .pointer (some ⟨gs, 1, none⟩) := d0
            have hp := hz (by kernel_rfl)
            (try clear hp_c0); (try clear hp_f0)
            (try clear hp_c1); (try clear hp_f1)
            (try clear hp_c2); (try clear hp_f2)
            (try clear hp_lt)
            have hp_lt := hp.lt; (try simp only [World.size_alloc] at hp_lt)
            have hp_c0 := hp.cell 0; have hp_f0 := hp.frozen 0
            have hp_c1 := hp.cell 1; have hp_f1 := hp.frozen 1
            have hp_c2 := hp.cell 2; have hp_f2 := hp.frozen 2
            simp only [List.getElem?_toArray, List.getElem?_cons_zero, List.getElem?_cons_succ] at hp_c0 hp_c1 hp_c2
            have HB := Lib.hid hb
            clear hd hb hz
            refine ⟨?_⟩
            simp only [fill, Act.put, List.setIfInBounds_toArray, List.set_cons_zero, List.set_cons_succ]
            go_simp
            exact ⟨But.refl _ _, ⟨HB.out.1.more (by omega), HB.out.2⟩, rfl⟩
          · intro m y wv hm hb hd hz
            have d0 := hd { on := 1, ground := .data } (by simp) (by kernel_rfl) (by kernel_rfl)
            replace d0 : y 1 = .int .i64 co := d0
            have HB := Lib.hid hb
            clear hd hb hz
            refine ⟨?_⟩
            simp only [fill, Act.put, List.setIfInBounds_toArray, List.set_cons_zero, List.set_cons_succ]
            go_simp
            exact ⟨But.refl _ _, ⟨HB.out.1.more (by omega), HB.out.2⟩, rfl⟩
          · intro m y wv hm hb hd hz
            have d0 := hd { on := 2, ground := .data } (by simp) (by kernel_rfl) (by kernel_rfl)
            replace d0 : y 2 = .int .i64 (co + 1) := d0
            have hsv := hb.2.1.size
            obtain ⟨hb1, hb2, z, hz0, hz1, hbk⟩ := hb
            have HB2 := Lib.hid (hb2.alloc (.cells #[.int .i64 (-1), .int .i64 (co + 1), .int .i64 999999] 3))
            have HBK := Lib.hid (hbk.alloc (.cells #[.int .i64 (-1), .int .i64 (co + 1), .int .i64 999999] 3))
            have HB1 := Lib.hid (hb1.below ((Below.refl _ _).alloc (Nat.le_refl _) (.cells #[.int .i64 (-1), .int .i64 (co + 1), .int .i64 999999] 3)))
            clear hd hz hb1 hb2 hbk
            refine ⟨?_⟩
            simp only [fill, Act.put, List.setIfInBounds_toArray, List.set_cons_zero, List.set_cons_succ]
            go_simp
            exact ⟨(But.refl _ _).alloc _, ⟨HB1.out.more (by omega), HB2.out, z, hz0, hz1, HBK.out⟩, _, rfl, by omega, Bk.new _ _ _⟩
          · intro m y wv hm hb hd hz
            have HB := Lib.hid hb
            clear hd hb hz
            refine ⟨?_⟩
            simp only [fill, Act.put, List.setIfInBounds_toArray, List.set_cons_zero, List.set_cons_succ]
            go_simp
            exact ⟨But.refl _ _, ⟨HB.out.1.more (by omega), HB.out.2⟩, rfl⟩
          · intro m y wv hm hb hd hz
            have d0 := hd { on := 4, ground := .data } (by simp) (by kernel_rfl) (by kernel_rfl)
            replace d0 : y 4 = .pointer (some ⟨g, 0, none⟩) := d0
            obtain ⟨hb1, hb2, z, hz0, hz1, hbk⟩ := hb
            replace hm : m < 10 := hm
            have HB2 := Lib.hid hb2
            have HBK := Lib.hid hbk
            clear hd hz hb2 hbk
            refine ⟨?_⟩
            simp only [fill, Act.put, List.setIfInBounds_toArray, List.set_cons_zero, List.set_cons_succ]
            go_simp
            refine (pick_any B g _ _ _ hb1 (by omega) (by omega)).mono ?_
            rintro e w2 ⟨r, rfl, r0, r1, hrd2, ho2, _⟩
            exact ⟨But.of_only ho2 (by first | exact rfl | exact .inl rfl), ⟨hrd2.more (by omega), HB2.out.trans (But.of_only ho2 (.inl rfl)), z, hz0, hz1, HBK.out.only ho2 (Ne.symm hggs)⟩, r, rfl, r0, by have := r1 (by omega); omega⟩
          · intro m y wv hm hb hd hz
            have d3 := hd { on := 3, ground := .data } (by simp) (by kernel_rfl) (by kernel_rfl)
            obtain ⟨b, hx3, hbN, hbk⟩ := d3
            have d5 := hd { on := 5, ground := .data } (by simp) (by kernel_rfl) (by kernel_rfl)
            obtain ⟨r, hx5, r0, r1⟩ := d5
            obtain ⟨k9, rfl⟩ := Int.eq_ofNat_of_zero_le r0
            have HBK := Lib.hid hbk
            have r3 : (k9 : Int) < 3 := by omega
            have HB := Lib.hid hb
            clear hd hb hz hbk
            refine ⟨?_⟩
            simp only [fill, Act.put, List.setIfInBounds_toArray, List.set_cons_zero, List.set_cons_succ]
            go_simp
            exact ⟨But.refl _ _, ⟨HB.out.1.more (by omega), HB.out.2⟩, b, k9, rfl, hbN, (by simp; omega), HBK.out⟩
          · intro m y wv hm hb hd hz
            have d6 := hd { on := 6, ground := .data } (by simp) (by kernel_rfl) (by kernel_rfl)
            obtain ⟨b, k9, hx6, hbN, hk9, hbk⟩ := d6
            obtain ⟨zq, hzq, hz0, hz1⟩ := lit_cell [-1, co + 1, 999999] (-1) 1000000 hbk (by simp; omega) hk9
            have HB := Lib.hid hb
            clear hd hb hz
            refine ⟨?_⟩
            simp only [fill, Act.put, List.setIfInBounds_toArray, List.set_cons_zero, List.set_cons_succ]
            go_simp
            exact ⟨But.refl _ _, ⟨HB.out.1.more (by omega), HB.out.2⟩, zq, rfl, hz0, hz1⟩
          · intro m y wv hm hb hd hz
            have HB := Lib.hid hb
            clear hd hb hz
            refine ⟨?_⟩
            simp only [fill, Act.put, List.setIfInBounds_toArray, List.set_cons_zero, List.set_cons_succ]
            go_simp
            exact ⟨But.refl _ _, ⟨HB.out.1.more (by omega), HB.out.2⟩, rfl⟩
          · intro m y wv hm hb hd hz
            have d8 := hd { on := 8, ground := .data } (by simp) (by kernel_rfl) (by kernel_rfl)
            replace d8 : y 8 = .pointer (some ⟨gs, 1, none⟩) := d8
            have d7 := hd { on := 7, ground := .data } (by simp) (by kernel_rfl) (by kernel_rfl)
            obtain ⟨zq, hx7, hz0, hz1⟩ := d7
            obtain ⟨hb1, hb2, z, _, _, hbk⟩ := hb
            have hgl := hb1.lt
            have HB1 := Lib.hid (Rd.setCell (p := ⟨gs, 1, none⟩) hb1 (by first | (show g < gs; omega) | (show g ≠ gs; omega)) (.int .i64 zq))
            have HB2 := Lib.hid (hb2.setCell (p := ⟨gs, 1, none⟩) (.inl (.inr rfl)) (.int .i64 zq))
            have HBK := Lib.hid (show Bk (wv.setCell ⟨gs, 1, none⟩ (.int .i64 zq)) gs 25 #[.int .i64 ro, .int .i64 zq, .slice A n c] by have := hbk.set_ 1 (.int .i64 zq); simpa using this)
            (try clear hbk_c0); (try clear hbk_f0)
            (try clear hbk_c1); (try clear hbk_f1)
            (try clear hbk_c2); (try clear hbk_f2)
            (try clear hbk_lt)
            have hbk_lt := hbk.lt; (try simp only [World.size_alloc] at hbk_lt)
            have hbk_c0 := hbk.cell 0; have hbk_f0 := hbk.frozen 0
            have hbk_c1 := hbk.cell 1; have hbk_f1 := hbk.frozen 1
            have hbk_c2 := hbk.cell 2; have hbk_f2 := hbk.frozen 2
            simp only [List.getElem?_toArray, List.getElem?_cons_zero, List.getElem?_cons_succ] at hbk_c0 hbk_c1 hbk_c2
            clear hd hz hb1 hb2
            refine ⟨?_⟩
            simp only [fill, Act.put, List.setIfInBounds_toArray, List.set_cons_zero, List.set_cons_succ]
            go_simp
            exact ⟨But.setCell (But.refl _ _) (.inl (.inr rfl)) _, ⟨HB1.out.more (by omega), HB2.out, zq, hz0, hz1, HBK.out⟩, undef, trivial⟩
          · intro y wv ⟨hcr, hbt, z, hz0, hz1, hS5⟩ hI
            replace hcr : Rd wv B g (K + 1013) := hcr
            have hO5 : Only g w wv := hO3.fresh (N := 0) _ hbt (fun k' h2 => by rcases h2 with h2 | h2; exact .inl h2; exact .inr (by omega))
            have hres5 := hres.but hbt (by show ¬ (w.heap.size = g ∨ w.heap.size = gs); have := hl.2; omega)
            have HPK5 := Lib.hid ((HPK.out.but0 hbt (fun k' o e hn0 he => by
              rcases he with he | he
              · have := hfr k' o none e; have := hl.2; omega
              · exact hNE k' o e hn0 (.inl he))).more (B' := wv.heap.size) (by have := hbt.size; omega))
            clear hI hbt hrd_v hO3
            (try clear hS5_c0); (try clear hS5_f0)
            (try clear hS5_c1); (try clear hS5_f1)
            (try clear hS5_c2); (try clear hS5_f2)
            (try clear hS5_lt)
            have hS5_lt := hS5.lt; (try simp only [World.size_alloc] at hS5_lt)
            have hS5_c0 := hS5.cell 0; have hS5_f0 := hS5.frozen 0
            have hS5_c1 := hS5.cell 1; have hS5_f1 := hS5.frozen 1
            have hS5_c2 := hS5.cell 2; have hS5_f2 := hS5.frozen 2
            simp only [List.getElem?_toArray, List.getElem?_cons_zero, List.getElem?_cons_succ] at hS5_c0 hS5_c1 hS5_c2
            (try clear hres5_c0); (try clear hres5_f0)
            (try clear hres5_c1); (try clear hres5_f1)
            (try clear hres5_c2); (try clear hres5_f2)
            (try clear hres5_lt)
            have hres5_lt := hres5.lt; (try simp only [World.size_alloc] at hres5_lt)
            have hres5_c0 := hres5.cell 0; have hres5_f0 := hres5.frozen 0
            have hres5_c1 := hres5.cell 1; have hres5_f1 := hres5.frozen 1
            have hres5_c2 := hres5.cell 2; have hres5_f2 := hres5.frozen 2
            simp only [List.getElem?_toArray, List.getElem?_cons_zero, List.getElem?_cons_succ] at hres5_c0 hres5_c1 hres5_c2
            refine ⟨?_⟩
            simp only [fill, Act.put, List.setIfInBounds_toArray, List.set_cons_zero, List.set_cons_succ]
            go_wp2
            refine ⟨rfl, ?_⟩
            apply Exists.intro
            apply And.intro
            · simp [results, Try.results21, go_sem, hres5_c0, hres5_c1, hres5_c2, hS5_c0, hS5_c1, hS5_c2, hres5_lt, hS5_lt]; exact rfl
            · exact ⟨_, _, _, rfl, ⟨_, _, A, n, c, xs, rfl, rfl, rfl, hn8, hnc, hc, by omega, by omega, ((HPK5.out.but0 (X := fun k' => k' = gs ∨ k' = w.heap.size) (by repeat (first | with_reducible exact But.refl _ _ | refine But.setCell ?_ (.inl (by first | exact .inl rfl | exact .inr rfl)) _)) hNE).more (by simp [World.setCell])), hfr⟩, Rd.more (K := K + 1013) (by repeat (first | with_reducible exact hcr | refine Rd.setCell ?_ (by first | (show g < gs; omega) | (show g < w.heap.size; omega)) _)) (by omega), (by repeat (first | with_reducible exact hO5 | refine Only.setCell ?_ (.inr (by first | (show w.heap.size ≤ gs; omega) | exact Nat.le_refl _)) _))⟩
        · have g2 : (v == 1) = false := by simpa using h1
          go_wp2
          refine ⟨rfl, ?_⟩
          apply Exists.intro
          apply And.intro
          · simp [results, Try.results21, go_sem, hres_c0, hres_c1, hres_c2, hS_c0, hS_c1, hS_c2, hres_lt, hS_lt]; exact rfl
          · exact ⟨_, _, _, rfl, ⟨_, _, A, n, c, xs, rfl, rfl, rfl, hn8, hnc, hc, by omega, by omega, ((HPK.out.but0 (X := fun k' => k' = gs ∨ k' = w.heap.size) (by repeat (first | with_reducible exact But.refl _ _ | refine But.setCell ?_ (.inl (by first | exact .inl rfl | exact .inr rfl)) _)) hNE).more (by simp [World.setCell])), hfr⟩, Rd.more (K := K + 1002 + 1) (by repeat (first | with_reducible exact hrd_v | refine Rd.setCell ?_ (by first | (show g < gs; omega) | (show g < w.heap.size; omega)) _)) (by omega), (by repeat (first | with_reducible exact hO3 | refine Only.setCell ?_ (.inr (by first | (show w.heap.size ≤ gs; omega) | exact Nat.le_refl _)) _))⟩
end Go.Proofs.Ytjhppghkhfacaaa
