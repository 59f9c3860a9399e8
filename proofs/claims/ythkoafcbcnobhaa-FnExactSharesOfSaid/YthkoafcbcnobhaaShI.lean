/-
  SharesOf of the program.
  Conditions: as each theorem states them.
-/
import Derived.Test.YthkoafcbcnobhaaTreeN
namespace Go.Proofs.Ythkoafcbcnobhaa
open Go.RowKit
set_option linter.unusedVariables false
set_option linter.unusedSimpArgs false

set_option maxHeartbeats 1000000 in
theorem wideV_any (x : Int) (w : World) : Calls Try.prog 44 #[.int .i64 x] w fun e w' => e = .returned (.bool (inB x 0 999999)) ∧ Below w.heap.size w w' := by
  go_enter Try.func44, Try.ntmps44
  go_wp2_with go_in
  all_goals
    go_ret
    exact ⟨ret_bool (by unfold inB; first | exact decide_eq_decide.2 (by omega) | exact (decide_eq_false (by omega)).symm | exact (decide_eq_true (by omega)).symm), (by repeat (first | exact Below.refl _ _ | assumption | refine Below.setCell ?_ (by first | omega | (simp; done) | (simp; omega)) _ | refine Below.alloc ?_ (by first | omega | (simp; done) | (simp; omega)) _ | refine Below.drew ?_ | refine Below.drewN' ?_ _ | refine Below.trans ?_ (Below.mono (by assumption) (by first | omega | (simp; done) | (simp; omega)))))⟩

/-- How many layers are given. -/
def lsum (ls : List Int) : Nat → Int
  | 0 => 0
  | k + 1 => lsum ls k + lX ls k
theorem lsum_same {ls : List Int} {k : Nat} {z : Int} : ∀ n : Nat, n ≤ k → k < ls.length → lsum (ls.set k z) n = lsum ls n
  | 0, _, _ => rfl
  | n + 1, hn, hk => by
    unfold lsum
    rw [lsum_same n (by omega) hk, lX_set hk, if_neg (by omega)]
theorem lsum_set {ls : List Int} {k : Nat} {z : Int} (hk : k < ls.length) : ∀ n : Nat, k < n → lsum (ls.set k z) n = lsum ls n + (z - lX ls k)
  | 0, h => absurd h (by omega)
  | n + 1, h => by
    unfold lsum
    rw [lX_set hk]
    by_cases e : k = n
    · subst e
      rw [if_pos rfl, lsum_same k (Nat.le_refl _) hk]
      omega
    · rw [if_neg e, lsum_set hk n (by omega)]
      omega
theorem lsum_le {ls : List Int} : ∀ n : Nat, ysTo ls n → lsum ls n ≤ 2 * n
  | 0, _ => by simp [lsum]
  | n + 1, h => by
    have ih := lsum_le n fun j hj => h j (by omega)
    have := h n (by omega)
    unfold lsum
    omega
theorem lsum_lt {ls : List Int} {j : Nat} (hj2 : lX ls j < 2) : ∀ n : Nat, ysTo ls n → j < n → lsum ls n < 2 * n
  | 0, _, hj => absurd hj (by omega)
  | n + 1, h, hj => by
    have hn := h n (by omega)
    have hy : ysTo ls n := fun i hi => h i (by omega)
    unfold lsum
    by_cases e : j = n
    · subst e
      have := lsum_le j hy
      omega
    · have := lsum_lt hj2 n hy (by omega)
      omega
theorem lsum_none (n : Nat) : ∀ k : Nat, k ≤ n → lsum (List.replicate n (-1)) k = -k
  | 0, _ => rfl
  | k + 1, hk => by
    unfold lsum
    rw [lsum_none n k (by omega)]
    have : lX (List.replicate n (-1)) k = -1 := by unfold lX; rw [List.getElem?_replicate, if_pos (by omega)]; rfl
    omega
theorem sum_none (xs : List Dm) (n : Nat) : ∀ k : Nat, k ≤ n → sumTo xs (List.replicate n (-1)) k = 0
  | 0, _ => rfl
  | k + 1, hk => by
    unfold sumTo
    rw [sum_none xs n k (by omega)]
    have : lX (List.replicate n (-1)) k = -1 := by unfold lX; rw [List.getElem?_replicate, if_pos (by omega)]; rfl
    rw [this]
    simp [cst]
theorem shR_stop {xs : List Dm} {bud : Int} {k : Nat} (h : stS xs bud (shR xs bud k) = shR xs bud k) : ∀ m : Nat, shR xs bud (k + m) = shR xs bud k
  | 0 => rfl
  | m + 1 => by
    show stS xs bud (shR xs bud (k + m)) = _
    rw [shR_stop h m, h]

/-- A filled row is one of the call's own. -/
theorem Part.own {w : World} {base g n : Nat} {zs : List Int} (h : Part w g n n zs) (hz : zs.length = n) (hb : base ≤ g) (hn : n ≤ maxLen) : w.ownsRow base 3 1 (.slice (some ⟨g, 0, none⟩) n n) n (zs.map (Value.int .i64)) := by
  obtain ⟨cs, h1, h2, h3⟩ := h
  refine ⟨by simp [hz], .inr ⟨g, n, cs, rfl, hb, h1, Nat.le_refl _, hn, by simpa using h2, ?_⟩⟩
  refine List.ext_getElem? fun i => ?_
  rw [List.getElem?_take, List.getElem?_map]
  by_cases hi : i < n
  · rw [if_pos (by omega), Array.getElem?_toList, h3 i hi, List.getElem?_eq_getElem (by omega)]
    rfl
  · rw [if_neg (by omega), List.getElem?_eq_none (by omega)]
    rfl
theorem Part.below {w w' : World} {g n k : Nat} {zs : List Int} (h : Part w g n k zs) {B : Nat} (hb : Below B w w') (hg : g < B) : Part w' g n k zs := by
  obtain ⟨cs, h1, h2, h3⟩ := h
  exact ⟨cs, h1.below hb hg, h2, h3⟩
theorem Part.lt {w : World} {g n k : Nat} {zs : List Int} (h : Part w g n k zs) : g < w.heap.size := by
  obtain ⟨cs, h1, h2, h3⟩ := h
  exact h1.lt
theorem own_lt {w : World} {base size n cap g : Nat} {e : TypeId} {xs : List Value} (h : w.ownsRow base e size (.slice (some ⟨g, 0, none⟩) n cap) n xs) : base ≤ g ∧ g < w.heap.size := h.lt g rfl
/-- The state at the loop's head: m rounds are done. -/
structure Hd (TL TY TI : TypeId) (gl gr gy gf : Nat) (A : Option Addr) (n c : Nat) (xs : List Dm) (bud : Int) (m : Nat) (w0 w : World) : Prop where
  list : Bk w gl TL #[.slice A n c]
  lays : Bk w gy TY #[.slice (some ⟨gr, 0, none⟩) n n]
  left : Bk w gf TI #[.int .i64 (bud - sumTo xs (shR xs bud m) n)]
  row : w.ownsRow gl TI 1 (.slice (some ⟨gr, 0, none⟩) n n) n ((shR xs bud m).map (Value.int .i64))
  low : Below gl w0 w
  sum : lsum (shR xs bud m) n = (m : Int) - n
theorem int1i_info : (Try.prog.info? 3).map (fun i => (i.zero, i.size, i.bytes)) = some (some (.int .i64 0), 1, 8) := by kernel_rfl

set_option maxHeartbeats 2000000 in
theorem first_of (gl gy gf gr : Nat) (A : Option Addr) (n c : Nat) (xs : List Dm) (ls : List Int) (left : Int) (w0 w : World) (t : Tr) (hD : Dms w0 w0.heap.size A n xs) (hI : Ints w0 w0.heap.size (some ⟨gr, 0, none⟩) n ls) (hv : lOk xs) (hyy : ysTo ls n)
    (hl : Bk w0 gl 26 #[.slice A n c]) (hy : Bk w0 gy 23 #[.slice (some ⟨gr, 0, none⟩) n n]) (hf : Bk w0 gf 3 #[.int .i64 left]) (hb : Below w0.heap.size w0 w) (hG : Grown 74 w0.heap.size xs ls n w t) :
    Calls Try.prog 47 #[t.p, .func (.func 45) #[] #[.pointer (some ⟨gl, 0, none⟩), .pointer (some ⟨gy, 0, none⟩), .pointer (some ⟨gf, 0, none⟩)]] w fun e w' => e = .returned (.int .i64 (nxt xs ls left n)) ∧ Below w.heap.size w w' := by
  obtain ⟨g1, g2, g3, g4, g5⟩ := hG
  have key := first_any gl gy gf (fun pl => decide (fit xs ls left pl.toNat)) (fun pl => ∃ j : Nat, j < n ∧ pl = j) w (fun w2 pl hb2 hp => by
    obtain ⟨j, hj, rfl⟩ := hp
    have hb12 : Below w0.heap.size w0 w2 := hb.trans (hb2.mono hb.size)
    have := fits_any gl gy gf A (some ⟨gr, 0, none⟩) n c n j xs ls left w2 ((hD.below hb12).more hb12.size) ((hI.below hb12).more hb12.size) hv hyy hj (hl.below hb12 hl.lt) (hy.below hb12 hy.lt) (hf.below hb12 hf.lt)
    simpa using this) t w (Below.refl _ _) g1 (fun e he => by obtain ⟨j, hj, rfl⟩ := (g4 e).1 he; exact ⟨j, hj, rfl⟩)
  rw [first_nxt (xs := xs) (ls := ls) (left := left) (n := n) (f := fun pl => decide (fit xs ls left pl.toNat)) g2 g4 (fun j hj => by simp)] at key
  exact key

set_option maxHeartbeats 8000000 in
theorem ishares_any (A : Option Addr) (n c : Nat) (xs : List Dm) (bud : Int) (w : World) (h : Dms w w.heap.size A n xs) (hn : n ≤ 1099511627776) :
    Calls Try.prog 25 #[.slice A n c, .int .i64 bud] w (ShPost 3 xs bud w) := by
  have HL := Lib.hid h.len
  have hall := (Below.refl w.heap.size w).alloc (Nat.le_refl _) (.cells #[.slice A n c] 26)
  have hv := idv_any A n c xs _ ((h.below hall).more hall.size) hn
  by_cases q : lOk xs
  · rw [show lB xs = true from decide_eq_true q] at hv
    have hn6 : n ≤ 6 := by have := q.1; rw [HL.out] at this; exact this
    have hv2 := fun w => wideV_any bud w
    by_cases hb : 0 ≤ bud ∧ bud ≤ 999999
    · rw [show inB bud 0 999999 = true from decide_eq_true hb] at hv2
      have key : Hid (shK xs bud = true ∧ shL xs bud = shR xs bud (3 * n)) := ⟨decide_eq_true ⟨q, hb⟩, by rw [← HL.out]; exact if_pos ⟨q, hb⟩⟩
      have HQ := Lib.hid q
      clear q
      obtain ⟨i0, hi0, hz0, hz1, hz2⟩ := info_parts int1i_info
      have hBl := Bk.new w 26 #[.slice A n c]
      have hgl : w.heap.size < (w.alloc (.cells #[.slice A n c] 26)).heap.size := by simp
      go_enter Try.func25, Try.ntmps25
      go_wp2_with (first | (go_at_call 34; refine hv.mono ?_; rintro e w1 ⟨rfl, hb1⟩; have hl1 := hBl.below hb1 hgl; have l1 := hl1.cell 0; simp only [List.getElem?_toArray, List.getElem?_cons_zero, List.getElem?_cons_succ] at l1) | (go_at_call 44; refine (hv2 _).mono ?_; rintro e w2 ⟨rfl, hb2⟩; have hl2 := hl1.below hb2 hl1.lt; have l2 := hl2.cell 0; simp only [List.getElem?_toArray, List.getElem?_cons_zero, List.getElem?_cons_succ] at l2) | (at_make; refine wpList_make_full _ rfl _ _ 23 rfl w2.heap.size 3 i0 (.int .i64 0) 1 Try.underlying23 hi0 hz0 hz1 .i64 .i64 _ _ n rfl rfl rfl rfl (by rw [hz2]; omega) (by unfold maxLen; omega) (Nat.le_refl _) ?_; intro w3 hown hgrow))
      have hp0 : Part w3 w2.heap.size n 0 (List.replicate n (-1)) := by
        rcases hown.2 with ⟨h1, _⟩ | ⟨g, cap, cur, hv, _, hg, _, _, hs, _⟩
        · cases h1
        · injection hv with hv _ hcap
          injection hv with hv
          injection hv with hv
          subst hv hcap
          exact ⟨cur, hg, by simpa using hs, fun j hj => absurd hj (by omega)⟩
      have hB2 : Below w.heap.size w w2 := (hall.trans (hb1.mono hall.size)).trans (hb2.mono (hall.trans (hb1.mono hall.size)).size)
      have hb3 : Below w2.heap.size w2 w3 := (Below.refl _ _).grown hgrow (Nat.le_refl _) (by simp)
      have hb4 : Below w3.heap.size w3 (w3.alloc (.cells #[.slice (some ⟨w2.heap.size, 0, none⟩) n n] 23)) := (Below.refl _ _).alloc (Nat.le_refl _) _
      have hB4 : Below w.heap.size w (w3.alloc (.cells #[.slice (some ⟨w2.heap.size, 0, none⟩) n n] 23)) := (hB2.trans (hb3.mono hB2.size)).trans (hb4.mono (hB2.trans (hb3.mono hB2.size)).size)
      have hl4 : Bk (w3.alloc (.cells #[.slice (some ⟨w2.heap.size, 0, none⟩) n n] 23)) w.heap.size 26 #[.slice A n c] := (hl2.below hb3 hl2.lt).below hb4 (hl2.below hb3 hl2.lt).lt
      have hy4 := Bk.new w3 23 #[.slice (some ⟨w2.heap.size, 0, none⟩) n n]
      have hp4 := hp0.below hb4 hp0.lt
      have hlr : w.heap.size < w2.heap.size := hl2.lt
      have hry : w2.heap.size < w3.heap.size := hp0.lt
      clear hown hgrow hb1 hb2 hb3 hb4 hB2 hl1 l1 hl2 l2 hBl hgl hall hp0 hv hv2
      generalize (w3.alloc (.cells #[.slice (some ⟨w2.heap.size, 0, none⟩) n n] 23)) = w4 at *
      generalize w2.heap.size = gr at *
      generalize w3.heap.size = gy at *
      go_loopw [27] (fun i wr => ∃ (k : Nat), k ≤ n ∧ i = .int .i64 k ∧ Bk wr w.heap.size 26 #[.slice A n c] ∧ Bk wr gy 23 #[.slice (some ⟨gr, 0, none⟩) n n] ∧ Part wr gr n k (List.replicate n (-1)) ∧ Below w.heap.size w wr) (fun i _ => n - (intOf i).toNat)
      case atStart => exact ⟨0, by omega, rfl, hl4, hy4, hp4, hB4⟩
      case round =>
        clear hl4 hy4 hp4 hB4
        obtain ⟨k, hk, rfl, hl, hy, hp, hB⟩ := hrel
        have hbs := hB.size
        by_cases hlt : k < n
        · have e0 : decide (k < n) = true := by simpa using hlt
          obtain ⟨u, hu⟩ := hp.cell hlt
          have hfz := hp.free k
          have hp' := hp.step hlt
          rw [show (List.replicate n (-1 : Int))[k]?.getD 0 = -1 by rw [List.getElem?_replicate, if_pos hlt]; rfl] at hp'
          have HP := Lib.hid hp'
          have hl' := hl.far (p := ⟨gr, k, none⟩) (by show w.heap.size ≠ gr; omega) (.int .i64 (-1))
          have hy' := hy.far (p := ⟨gr, k, none⟩) (by show gy ≠ gr; omega) (.int .i64 (-1))
          have hB' := hB.setCell (p := ⟨gr, k, none⟩) (by show w.heap.size ≤ gr; omega) (.int .i64 (-1))
          (try clear hy_c0); (try clear hy_f0)
          (try clear hy_lt)
          have hy_lt := hy.lt; (try simp only [World.size_alloc] at hy_lt)
          have hy_c0 := hy.cell 0; have hy_f0 := hy.frozen 0
          simp only [List.getElem?_toArray, List.getElem?_cons_zero, List.getElem?_cons_succ] at hy_c0
          clear hp hp'
          go_wp2
          go_roundw
          case rel => exact ⟨k + 1, by omega, by go_num, hl', hy', HP.out, hB'⟩
          case measure => simp [intOf]; omega
        · have hkn : k = n := by omega
          subst hkn
          have HOW := Lib.hid (hp.own (base := w.heap.size) (by simp) (by omega) (by unfold maxLen; omega))
          have hgrl := hp.lt
          have hyl := hy.lt
          have hfb : Below wr.heap.size wr (wr.alloc (.cells #[.int .i64 bud] 3)) := (Below.refl _ _).alloc (Nat.le_refl _) _
          have hl5 := hl.below hfb hl.lt
          have hy5 := hy.below hfb hyl
          have hf5 := Bk.new wr 3 #[.int .i64 bud]
          have ho5 := HOW.out.alloc (.cells #[.int .i64 bud] 3)
          have hB5 := hB.trans (hfb.mono hbs)
          have H0 : Hid (Hd 26 23 3 w.heap.size gr gy wr.heap.size A k c xs bud 0 w (wr.alloc (.cells #[.int .i64 bud] 3))) := Lib.hid ⟨hl5, hy5, by rw [show sumTo xs (shR xs bud 0) k = 0 by rw [shR, HL.out]; exact sum_none xs k k (Nat.le_refl _), Int.sub_zero]; exact hf5, by rw [shR, HL.out]; exact ho5, hB5, by rw [shR, HL.out, lsum_none k k (Nat.le_refl _)]; omega⟩
          have hyf : gy < wr.heap.size := hyl
          (try clear hy_c0); (try clear hy_f0)
          (try clear hy_lt)
          have hy_lt := hy.lt; (try simp only [World.size_alloc] at hy_lt)
          have hy_c0 := hy.cell 0; have hy_f0 := hy.frozen 0
          simp only [List.getElem?_toArray, List.getElem?_cons_zero, List.getElem?_cons_succ] at hy_c0
          clear hl hp hfb hB HOW hl5 hy5 hf5 ho5 hB5
          generalize hgf : wr.heap.size = gf at *
          go_wp2
          go_loopg [10] (3 * k) (fun r pl w' => ∃ m : Nat, r + m = 3 * k ∧ Hid (Hd 26 23 3 w.heap.size gr gy gf A k c xs bud m w w'))
          case atStart => exact ⟨0, by omega, H0⟩
          case round =>
            obtain ⟨m, hrm, HH⟩ := hrel
            clear H0
            obtain ⟨hl, hy, hf, ho, hB, hsum⟩ := HH.out
            have hbs := hB.size
            have hfl := hf.lt
            have hgrw := (own_lt ho).2
            generalize hLL : shR xs bud m = LL at hf ho hsum
            have hsl : LL.length = k := by rw [← hLL, shR_len, HL.out]
            have hyy : ysTo LL k := by
              rw [← hLL]
              have := shR_ys xs bud m
              rw [HL.out] at this
              exact this
            obtain ⟨s0, hs0⟩ : ∃ s0, sumTo xs LL k = s0 := ⟨_, rfl⟩
            rw [hs0] at hf
            have hs0b := sum_bd6 HQ.out LL (k := k) (by rw [HL.out]; exact Nat.le_refl _)
            rw [hs0] at hs0b
            have HNT := Lib.hid (newTree_any A (some ⟨gr, 0, none⟩) k c k xs LL _ ((h.below hB).more hbs) (Sl.of_own ho) hn6)
            have HFST := Lib.hid (fun w1 t hb1 hG => first_of w.heap.size gy gf gr A k c xs LL (bud - s0) _ w1 t ((h.below hB).more hbs) (Sl.of_own ho) HQ.out hyy hl hy hf hb1 hG)
            obtain ⟨o, hno⟩ : ∃ o, nxt xs LL (bud - s0) k = o := ⟨_, rfl⟩
            have hor := nxt_range xs LL (bud - s0) k
            have hfit := nxt_fit xs LL (bud - s0) k
            rw [hno] at HFST hor hfit
            by_cases h0 : o < 0
            · have e0 : decide (o < 0) = true := by simpa using h0
              have hm3 : m ≤ 3 * k := by omega
              have HE := Lib.hid (show shL xs bud = LL by
                rw [key.out.2, show 3 * k = m + (3 * k - m) by omega, shR_stop (by rw [hLL]; exact stS_skip hsl hs0 hno h0), hLL])
              have HO := Lib.hid ho
              have HY := Lib.hid hy
              (try clear hl_c0); (try clear hl_f0)
              (try clear hl_lt)
              have hl_lt := hl.lt; (try simp only [World.size_alloc] at hl_lt)
              have hl_c0 := hl.cell 0; have hl_f0 := hl.frozen 0
              simp only [List.getElem?_toArray, List.getElem?_cons_zero, List.getElem?_cons_succ] at hl_c0
              (try clear hy_c0); (try clear hy_f0)
              (try clear hy_lt)
              have hy_lt := hy.lt; (try simp only [World.size_alloc] at hy_lt)
              have hy_c0 := hy.cell 0; have hy_f0 := hy.frozen 0
              simp only [List.getElem?_toArray, List.getElem?_cons_zero, List.getElem?_cons_succ] at hy_c0
              clear hfit hsum ho
              go_wp2_with (first | (go_at_call 46; refine HNT.out.mono ?_; rintro e w1 ⟨t, rfl, hG, hb1⟩; have HG := Lib.hid hG; clear hG) | (go_at_call 47; refine (HFST.out w1 t hb1 HG.out).mono ?_; rintro e w2 ⟨rfl, hb2⟩; have hb12 := hb1.trans (hb2.mono hb1.size); have y2 := (HY.out.below hb12 HY.out.lt).cell 0; simp only [List.getElem?_toArray, List.getElem?_cons_zero, List.getElem?_cons_succ] at y2))
              go_ret2
              refine ⟨_, ret_vb key.out.1.symm, ?_, hB.trans (hb12.mono hbs)⟩
              rw [HE.out, hsl]
              exact own_below HO.out hb12
            · have e0 : decide (o < 0) = false := by simpa using h0
              obtain ⟨j, rfl⟩ := Int.eq_ofNat_of_zero_le (show 0 ≤ o by omega)
              have hj : j < k := by omega
              obtain ⟨z, hz⟩ : ∃ z, lX LL j = z := ⟨_, rfl⟩
              have hzb := hyy j hj
              have hzf := (hfit (by omega)).1
              rw [Int.toNat_natCast] at hzf
              rw [hz] at hzb hzf
              have hm3 : m < 3 * k := by
                have := lsum_lt (ls := LL) (j := j) (by rw [hz]; omega) k hyy hj
                omega
              have hnx := stS_take (xs := xs) (bud := bud) hsl hs0 hno hz
              obtain ⟨b, off, rfl, hbb, hcell⟩ := h.addr (by omega)
              obtain ⟨x, hx⟩ : ∃ x, xs[j]? = some x := ⟨_, List.getElem?_eq_getElem (by rw [HL.out]; exact hj)⟩
              obtain ⟨c0, c1, c2, c3⟩ := hcell j x hx
              obtain ⟨st, hst⟩ : ∃ st, stp x z = st := ⟨_, rfl⟩
              have hsb := stp_bd (lOk_at HQ.out hx) z
              have hv := fun w => om_any x z w (lOk_at HQ.out hx) hzb.1 (by omega)
              rw [hst] at hv hsb
              have HNX := Lib.hid (show shR xs bud (m + 1) = LL.set j (z + 1) from by rw [show shR xs bud (m + 1) = stS xs bud (shR xs bud m) from rfl, hLL]; exact hnx)
              have HS1 := Lib.hid (show sumTo xs (LL.set j (z + 1)) k = s0 + st by
                rw [sum_set xs (by omega) k hj, hs0, dX_of hx, hz, ← hst]
                rfl)
              have HS2 := Lib.hid (show lsum (LL.set j (z + 1)) k = ((m + 1 : Nat) : Int) - k by
                rw [lsum_set (by omega) k hj, hsum, hz]
                omega)
              have HZC := Lib.hid (show (LL.map (Value.int .i64))[j]? = some (.int .i64 z) by rw [ints_cell (by omega), hz])
              have HL5 := Lib.hid hl
              have HY5 := Lib.hid hy
              have HF5 := Lib.hid hf
              have HO5 := Lib.hid ho
              have HCS := Lib.hid (And.intro c0 (And.intro c1 (And.intro c2 c3)))
              (try clear hl_c0); (try clear hl_f0)
              (try clear hl_lt)
              have hl_lt := hl.lt; (try simp only [World.size_alloc] at hl_lt)
              have hl_c0 := hl.cell 0; have hl_f0 := hl.frozen 0
              simp only [List.getElem?_toArray, List.getElem?_cons_zero, List.getElem?_cons_succ] at hl_c0
              (try clear hy_c0); (try clear hy_f0)
              (try clear hy_lt)
              have hy_lt := hy.lt; (try simp only [World.size_alloc] at hy_lt)
              have hy_c0 := hy.cell 0; have hy_f0 := hy.frozen 0
              simp only [List.getElem?_toArray, List.getElem?_cons_zero, List.getElem?_cons_succ] at hy_c0
              clear hfit hsum ho hcell c0 c1 c2 c3 hx hnx hst hz hno hyy
              go_wp2_with (first | (go_at_call 46; refine HNT.out.mono ?_; rintro e w1 ⟨t, rfl, hG, hb1⟩; have HG := Lib.hid hG; clear hG) | (go_at_call 47; refine (HFST.out w1 t hb1 HG.out).mono ?_; rintro e w2 ⟨rfl, hb2⟩))
              have hb12 := hb1.trans (hb2.mono hb1.size)
              have hl2 := HL5.out.below hb12 HL5.out.lt
              have hy2 := HY5.out.below hb12 HY5.out.lt
              have cz := own_cell (own_below HO5.out hb12) HZC.out
              obtain ⟨c0, c1, c2, c3⟩ := HCS.out
              have hB12 := hB.trans (hb12.mono hbs)
              replace c0 := (hB12.cell (p := ⟨b, off + j * 4, none⟩) hbb).trans c0
              replace c1 := (hB12.cell (p := ⟨b, off + j * 4 + 1, none⟩) hbb).trans c1
              replace c2 := (hB12.cell (p := ⟨b, off + j * 4 + 2, none⟩) hbb).trans c2
              replace c3 := (hB12.cell (p := ⟨b, off + j * 4 + 3, none⟩) hbb).trans c3
              (try clear hl_c0); (try clear hl_f0)
              (try clear hl_lt)
              (try clear hy_c0); (try clear hy_f0)
              (try clear hy_lt)
              (try clear hl2_c0); (try clear hl2_f0)
              (try clear hl2_lt)
              have hl2_lt := hl2.lt; (try simp only [World.size_alloc] at hl2_lt)
              have hl2_c0 := hl2.cell 0; have hl2_f0 := hl2.frozen 0
              simp only [List.getElem?_toArray, List.getElem?_cons_zero, List.getElem?_cons_succ] at hl2_c0
              (try clear hy2_c0); (try clear hy2_f0)
              (try clear hy2_lt)
              have hy2_lt := hy2.lt; (try simp only [World.size_alloc] at hy2_lt)
              have hy2_c0 := hy2.cell 0; have hy2_f0 := hy2.frozen 0
              simp only [List.getElem?_toArray, List.getElem?_cons_zero, List.getElem?_cons_succ] at hy2_c0
              refine wp_region_cells [(w.heap.size, 0, .slice (some ⟨b, off, none⟩) k c), (gy, 0, .slice (some ⟨gr, 0, none⟩) k k), (b, off + j * 4, .int .i64 x.we), (b, off + j * 4 + 1, .int .i64 x.lo), (b, off + j * 4 + 2, .int .i64 x.mi), (b, off + j * 4 + 3, .int .i64 x.hi), (gr, j, .int .i64 z)] (by kernel_rfl) (by kernel_rfl) ?_ ?_
              · simp only [List.forall_mem_cons]
                exact ⟨by go_simp, by go_simp, by go_simp, by go_simp, by go_simp, by go_simp, by go_simp, by simp⟩
              intro hcs
              simp only [List.forall_mem_cons] at hcs
              obtain ⟨dc0, dc1, dc2, dc3, dc4, dc5, dc6, -⟩ := hcs
              repeat (any_goals (first | go_big_quiet_step (first | (go_at_call 39; exact BW.calls (Nat.le_refl _) _ (hv _))) | quiet_step (first | (go_at_call 39; exact BW.calls (Nat.le_refl _) _ (hv _)))))
              refine wpQuiet_nil ?_
              intro _ hw'
              obtain ⟨xw, hw''⟩ := hw'
              subst hw''
              have hbw := xw.2
              clear dc0 dc1 dc2 dc3 dc4 dc5 dc6
              generalize xw.1 = ww at hbw ⊢
              clear xw
              obtain ⟨kw, fw⟩ := bcell hbw
              have sw := hbw.size
              have hbF := hb12.trans (hbw.mono hb12.size)
              have hBF := hB.trans (hbF.mono hbs)
              have hl3 := HL5.out.below hbF HL5.out.lt
              have hy3 := HY5.out.below hbF HY5.out.lt
              have hf3 := HF5.out.below hbF HF5.out.lt
              have ho3 := own_below HO5.out hbF
              have cz3 := own_cell ho3 HZC.out
              have fz3 := own_free ho3 j
              have hset := (hf3.set_ 0 (.int .i64 (bud - s0 - st))).far (p := ⟨gr, j, none⟩) (by show gf ≠ gr; omega) (.int .i64 (z + 1))
              simp only [List.setIfInBounds_toArray, List.set_cons_zero] at hset
              have HHN := Lib.hid (Hd.mk (n := k) (m := m + 1) (xs := xs) (bud := bud) ((hl3.far (p := ⟨gf, 0, none⟩) (by show w.heap.size ≠ gf; omega) (.int .i64 (bud - s0 - st))).far (p := ⟨gr, j, none⟩) (by show w.heap.size ≠ gr; omega) (.int .i64 (z + 1)))
                ((hy3.far (p := ⟨gf, 0, none⟩) (by show gy ≠ gf; omega) (.int .i64 (bud - s0 - st))).far (p := ⟨gr, j, none⟩) (by show gy ≠ gr; omega) (.int .i64 (z + 1)))
                (by rw [HNX.out, HS1.out, show bud - (s0 + st) = bud - s0 - st by omega]; exact hset)
                (by rw [HNX.out, List.map_set]; exact own_set (ownsRow_setCell_other ho3 (a := ⟨gf, 0, none⟩) (by simp [Value.ownBlock]; omega) _) _)
                ((hBF.setCell (p := ⟨gf, 0, none⟩) (by show w.heap.size ≤ gf; omega) (.int .i64 (bud - s0 - st))).setCell (p := ⟨gr, j, none⟩) (by show w.heap.size ≤ gr; omega) (.int .i64 (z + 1)))
                (by rw [HNX.out]; exact HS2.out))
              (try clear hl2_c0); (try clear hl2_f0)
              (try clear hl2_lt)
              (try clear hy2_c0); (try clear hy2_f0)
              (try clear hy2_lt)
              clear c0 c1 c2 c3 cz kw fw hbw hset ho3
              (try clear hl3_c0); (try clear hl3_f0)
              (try clear hl3_lt)
              have hl3_lt := hl3.lt; (try simp only [World.size_alloc] at hl3_lt)
              have hl3_c0 := hl3.cell 0; have hl3_f0 := hl3.frozen 0
              simp only [List.getElem?_toArray, List.getElem?_cons_zero, List.getElem?_cons_succ] at hl3_c0
              (try clear hy3_c0); (try clear hy3_f0)
              (try clear hy3_lt)
              have hy3_lt := hy3.lt; (try simp only [World.size_alloc] at hy3_lt)
              have hy3_c0 := hy3.cell 0; have hy3_f0 := hy3.frozen 0
              simp only [List.getElem?_toArray, List.getElem?_cons_zero, List.getElem?_cons_succ] at hy3_c0
              (try clear hf3_c0); (try clear hf3_f0)
              (try clear hf3_lt)
              have hf3_lt := hf3.lt; (try simp only [World.size_alloc] at hf3_lt)
              have hf3_c0 := hf3.cell 0; have hf3_f0 := hf3.frozen 0
              simp only [List.getElem?_toArray, List.getElem?_cons_zero, List.getElem?_cons_succ] at hf3_c0
              go_wp2
              go_roundg (3 * k - (m + 1))
              case measure => omega
              case rel => exact ⟨m + 1, by omega, HHN⟩
    · rw [show inB bud 0 999999 = false from decide_eq_false hb] at hv2
      have key : Hid (shK xs bud = false ∧ shL xs bud = []) := ⟨decide_eq_false fun hp => hb hp.2, if_neg fun hp => hb hp.2⟩
      go_enter Try.func25, Try.ntmps25
      go_wp2_with (first | (go_at_call 34; refine hv.mono ?_; rintro e w1 ⟨rfl, hb1⟩) | (go_at_call 44; refine (hv2 _).mono ?_; rintro e w2 ⟨rfl, hb2⟩))
      have hB2 : Below w.heap.size w w2 := (hall.trans (hb1.mono hall.size)).trans (hb2.mono (hall.trans (hb1.mono hall.size)).size)
      have HE := Lib.hid (own_empty w2 w.heap.size 3 1 hB2.size)
      go_ret2
      exact ⟨_, ret_vb key.out.1.symm, by rw [key.out.2]; exact HE.out, hB2.alloc hB2.size _⟩
  · rw [show lB xs = false from decide_eq_false q] at hv
    have key : Hid (shK xs bud = false ∧ shL xs bud = []) := ⟨decide_eq_false fun hp => q hp.1, if_neg fun hp => q hp.1⟩
    go_enter Try.func25, Try.ntmps25
    go_wp2_with (first | (go_at_call 34; refine hv.mono ?_; rintro e w1 ⟨rfl, hb1⟩))
    have hB2 : Below w.heap.size w w1 := hall.trans (hb1.mono hall.size)
    have HE := Lib.hid (own_empty w1 w.heap.size 3 1 hB2.size)
    go_ret2
    exact ⟨_, ret_vb key.out.1.symm, by rw [key.out.2]; exact HE.out, hB2.alloc hB2.size _⟩
end Go.Proofs.Ythkoafcbcnobhaa
