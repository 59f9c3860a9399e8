/-
  Pacers: the drawn pacer.
  Conditions: the code's memory.
-/
import Derived.Laws.StructEq
import Derived.Test.YtilokgloocbbnaaRows
import Derived.Test.YtilokgloocbbnaaLib
import Derived.Test.YtilokgloocbbnaaOwn
import Derived.Test.YtilokgloocbbnaaBut
import Derived.Test.YtilokgloocbbnaaDraw
import Derived.Test.YtilokgloocbbnaaInv
import Derived.Test.YtilokgloocbbnaaSlots
import Derived.Test.YtilokgloocbbnaaApp
import Derived.Test.YtilokgloocbbnaaPac
import Derived.Test.YtilokgloocbbnaaPacB
import Derived.Test.YtilokgloocbbnaaPacD
import Derived.Test.YtilokgloocbbnaaPacP
import Derived.Outline
namespace Go.Proofs.Ytilokgloocbbnaa
open Go.RowKit
set_option linter.unusedVariables false
set_option linter.unusedSimpArgs false

/-- The fields of a pacer whose packets lie in memory from block N on. -/
def PF (N : Nat) (a b u : Value) (w : World) : Prop := ∃ (ea cr : Int) (xs : List Wt), a = .int .i64 ea ∧ b = .int .i64 cr ∧ xs.length ≤ 12 ∧ w.ownsRow N 27 3 u xs.length (xs.flatMap Wt.c)
/-- A pacer in block b. -/
def PBk (N : Nat) (w : World) (b : Nat) : Prop := ∃ v0 v1 v2, Bk w b 25 #[v0, v1, v2] ∧ PF N v0 v1 v2 w
/-- Below block N only block g has turned; from N on rows of packets are kept, and pacers stay pacers. -/
structure StP (N g : Nat) (w w' : World) : Prop where
  but : But (fun k => k = g ∨ N ≤ k) w w'
  pb : ∀ b, N ≤ b → PBk N w b → PBk N w' b
  row : ∀ v n xs, w.ownsRow N 27 3 v n xs → w'.ownsRow N 27 3 v n xs
theorem own_ne {w : World} {N n b : Nat} {v : Value} {xs : List Value} {cs : Array Value} (h : w.ownsRow N 27 3 v n xs) (hk : Bk w b 25 cs) : ∀ k, v.ownBlock = some k → k ≠ b := by
  intro k hk' he
  subst he
  rcases h.2 with ⟨rfl, _⟩ | ⟨g', cap, cur, rfl, _, hgg, _⟩
  · cases hk'
  · injection hk' with hk'
    subst hk'
    unfold Bk at hk
    rw [hk] at hgg
    injection hgg with hgg
    injection hgg with _ h2
    exact absurd h2 (by decide)
theorem PF.row {N : Nat} {a b u : Value} {w w' : World} (h : PF N a b u w) (hr : ∀ v n xs, w.ownsRow N 27 3 v n xs → w'.ownsRow N 27 3 v n xs) : PF N a b u w' := by
  obtain ⟨ea, cr, xs, h1, h2, h3, h4⟩ := h
  exact ⟨ea, cr, xs, h1, h2, h3, hr _ _ _ h4⟩
theorem StP.refl (N g : Nat) (w : World) : StP N g w w := ⟨But.refl _ _, fun _ _ h => h, fun _ _ _ h => h⟩
theorem StP.trans {N g : Nat} {a b c : World} (h : StP N g a b) (k : StP N g b c) : StP N g a c := ⟨h.but.trans k.but, fun x hx hp => k.pb x hx (h.pb x hx hp), fun v n xs hr => k.row v n xs (h.row v n xs hr)⟩
theorem StP.of_only {N g : Nat} {w w' : World} (h : Only g w w') (hg : g < N) : StP N g w w' :=
  ⟨But.of_only h (.inl rfl), fun b hb ⟨v0, v1, v2, h1, h2⟩ => ⟨v0, v1, v2, h1.only h (by omega), h2.row fun v n xs hr => own_only hr h hg⟩, fun v n xs hr => own_only hr h hg⟩
theorem StP.of_new {N g : Nat} {w w' : World} (h : Below w.heap.size w w') : StP N g w w' :=
  ⟨But.of_new h, fun b hb ⟨v0, v1, v2, h1, h2⟩ => ⟨v0, v1, v2, h1.below h h1.lt, h2.row fun v n xs hr => own_below hr h⟩, fun v n xs hr => own_below hr h⟩
theorem StP.alloc {N g : Nat} {a w : World} (h : StP N g a w) (o : Obj) : StP N g a (w.alloc o) := h.trans (StP.of_new ((Below.refl _ _).alloc (Nat.le_refl _) _))
theorem StP.drew {N g : Nat} {a w : World} (h : StP N g a w) : StP N g a w.drew := ⟨h.but.drew, fun b hb hp => h.pb b hb hp, fun v n xs hr => h.row v n xs hr⟩
theorem StP.store {N g b : Nat} {w : World} {c0 c1 c2 v0 v1 v2 : Value} (hb : N ≤ b) (hk : Bk w b 25 #[c0, c1, c2]) (hv : PF N v0 v1 v2 w) : StP N g w (((w.setCell ⟨b, 0, none⟩ v0).setCell ⟨b, 1, none⟩ v1).setCell ⟨b, 2, none⟩ v2) := by
  have hO : Only b w (((w.setCell ⟨b, 0, none⟩ v0).setCell ⟨b, 1, none⟩ v1).setCell ⟨b, 2, none⟩ v2) := (((Only.refl b w).setCell (p := ⟨b, 0, none⟩) (.inl rfl) _).setCell (p := ⟨b, 1, none⟩) (.inl rfl) _).setCell (p := ⟨b, 2, none⟩) (.inl rfl) _
  have hrow : ∀ v n xs, w.ownsRow N 27 3 v n xs → (((w.setCell ⟨b, 0, none⟩ v0).setCell ⟨b, 1, none⟩ v1).setCell ⟨b, 2, none⟩ v2).ownsRow N 27 3 v n xs := fun v n xs hr => by
    refine own_but hr (But.of_only (X := fun k => k = b) hO rfl) fun k hk' he => ?_
    subst he
    rcases hr.2 with ⟨rfl, _⟩ | ⟨g', cap, cur, rfl, _, hgg, _⟩
    · cases hk'
    · injection hk' with hk'
      subst hk'
      unfold Bk at hk
      rw [hk] at hgg
      injection hgg with hgg
      injection hgg with _ h2
      exact absurd h2 (by decide)
  refine ⟨But.of_only hO (.inr hb), fun b' hb' hp => ?_, hrow⟩
  by_cases e : b' = b
  · subst e
    refine ⟨v0, v1, v2, ?_, hv.row hrow⟩
    have := ((hk.set_ 0 v0).set_ 1 v1).set_ 2 v2
    simpa using this
  · obtain ⟨u0, u1, u2, h1, h2⟩ := hp
    exact ⟨u0, u1, u2, h1.only hO e, h2.row hrow⟩

/-- A pacer and whether, behind a put of the reference. -/
def PutAny (w : World) (y : Ending) (w' : World) : Prop := ∃ a b u r, y = .returned (.tuple #[.agg #[a, b, u], .bool r]) ∧ PF w.heap.size a b u w' ∧ Below w.heap.size w w'
theorem sput_any (ea cr : Int) (A : Option Addr) (n c : Nat) (xs : List Wt) (x : Wt) (w : World) (h : Wts w w.heap.size A n xs) (hn : n ≤ 1099511627776) (hnc : n ≤ c) (hc : c ≤ maxLen) :
    Calls Try.prog 15 #[.agg #[.int .i64 ea, .int .i64 cr, .slice A n c], .agg #[.int .i64 x.id, .int .i64 x.cl, .int .i64 x.sz]] w (PutAny w) := by
  by_cases hin : PutIn ea cr xs x
  · refine (sput_good ea cr A n c xs x w h hn hnc hc hin).mono ?_
    rintro y w' ⟨k, hk, v, rfl, hown, hb⟩
    refine ⟨_, _, _, _, rfl, ⟨ea, cr, putAt xs k x, rfl, rfl, ?_, hown⟩, hb⟩
    have h1 := hin.2.2
    have h2 := hin.1.2.2.2.2.1
    rw [putAt_len hk.1]
    omega
  · refine (sput_bad ea cr A n c xs x w h hn hin).mono ?_
    rintro y w' ⟨rfl, hb⟩
    exact ⟨_, _, _, _, rfl, ⟨0, 0, [], rfl, rfl, by simp, by simp, .inl ⟨rfl, rfl⟩⟩, hb⟩

/-- What the slots hold. -/
def IM (N g : Nat) (ea cr : Int) (A : Option Addr) (n c : Nat) : Nat → Value → World → Prop
  | 0, u, _ => u = .agg #[.int .i64 ea, .int .i64 cr, .slice A n c]
  | 1, u, _ => u = .pointer (some ⟨g, 0, none⟩)
  | 2, u, _ => ∃ x : Wt, u = .agg #[.int .i64 x.id, .int .i64 x.cl, .int .i64 x.sz]
  | 3, u, w => ∃ a b q r, u = .tuple #[.agg #[a, b, q], .bool r] ∧ PF N a b q w
  | 4, u, w => ∃ a b q r, u = .tuple #[.agg #[a, b, q], .bool r] ∧ PF N a b q w
  | 5, u, w => ∃ a b q, u = .agg #[a, b, q] ∧ PF N a b q w
  | 6, u, _ => ∃ r, u = .bool r
  | 7, u, w => ∃ b, u = .pointer (some ⟨b, 0, none⟩) ∧ N ≤ b ∧ PBk N w b
  | 8, _, _ => True
  | 9, u, _ => ∃ r, u = .bool r
  | _, _, _ => True
theorem IM.mono {N g : Nat} {ea cr : Int} {A : Option Addr} {n c : Nat} (j : Nat) (v : Value) (w w' : World) (ho : StP N g w w') (h : IM N g ea cr A n c j v w) : IM N g ea cr A n c j v w' := by
  unfold IM at *
  split at h
  all_goals try exact h
  · obtain ⟨a, b, q, r, h1, h2⟩ := h
    exact ⟨a, b, q, r, h1, h2.row ho.row⟩
  · obtain ⟨a, b, q, r, h1, h2⟩ := h
    exact ⟨a, b, q, r, h1, h2.row ho.row⟩
  · obtain ⟨a, b, q, h1, h2⟩ := h
    exact ⟨a, b, q, h1, h2.row ho.row⟩
  · obtain ⟨b, h1, h2, h3⟩ := h
    exact ⟨b, h1, h2, ho.pb b h2 h3⟩


/-- A pacer is drawn: its packets lie in memory of the call's own. -/
def PacDrawn (B g K : Nat) (w : World) (y : Ending) (w' : World) : Prop := ∃ a b u, y = .returned (.agg #[a, b, u]) ∧ PF w.heap.size a b u w' ∧ Rd w' B g K ∧ Only g w w'

set_option maxHeartbeats 8000000 in
theorem l92Pacer_any (B g K : Nat) (w : World) (h : Rd w B g K) (hK : K ≤ 1099511600000) :
    Calls Try.prog 35 #[.pointer (some ⟨g, 0, none⟩)] w (PacDrawn B g (K + 1000) w) := by
  have hl := h.lt
  have hres := Bk.new w 25 #[.int .i64 0, .int .i64 0, .slice none 0 0]
  have hall0 := fun o => (Below.refl w.heap.size w).alloc (Nat.le_refl _) o
  go_enter Try.func35, Try.ntmps35
  go_wp2_with fail
  go_wp2_with fail
  refine (pick_any _ _ _ _ _ (h.below (hall0 _)) (by omega) (by omega)).mono ?_
  rintro e w_p ⟨p, rfl, p_0, p_1, hrd_p, ho_p, hsz_p⟩
  have p_u := p_1 (by omega)
  have hlt_p := hrd_p.lt
  clear p_1
  go_wp2_with fail
  refine (pick_any _ _ _ _ _ hrd_p (by omega) (by omega)).mono ?_
  rintro e w_q ⟨q, rfl, q_0, q_1, hrd_q, ho_q, hsz_q⟩
  have q_u := q_1 (by omega)
  have hlt_q := hrd_q.lt
  clear q_1
  have hO : Only g w w_q := ((Only.of_below (hall0 _)).trans ho_p).trans ho_q
  replace hres := hres.only ho_p (by first | omega | (simp; done) | (simp; omega))
  replace hres := hres.only ho_q (by first | omega | (simp; done) | (simp; omega))
  have hres_l : w.heap.size < w_q.heap.size := hres.lt
  clear ho_p ho_q hsz_p hsz_q hrd_p h hall0
  have hm1 : q * 2 ≤ 498 := by omega
  have hlit := Bk.new w_q 27 #[]
  have HE0 := Lib.hid (own_empty w_q w_q.heap.size 27 3 (Nat.le_refl _))
  go_wp2_with fail
  have hS := Bk.new (w_q.alloc (.cells #[] 27)) 25 #[.int .i64 (20 + p), .int .i64 (q * 2), .slice (some ⟨w_q.heap.size, 0, none⟩) 0 0]
  have hall2 : Below w_q.heap.size w_q ((w_q.alloc (.cells #[] 27)).alloc (.cells #[.int .i64 (20 + p), .int .i64 (q * 2), .slice (some ⟨w_q.heap.size, 0, none⟩) 0 0] 25)) := (by repeat (first | exact Below.refl _ _ | assumption | refine Below.setCell ?_ (by first | omega | (simp; done) | (simp; omega)) _ | refine Below.alloc ?_ (by first | omega | (simp; done) | (simp; omega)) _ | refine Below.drew ?_ | refine Below.drewN' ?_ _ | refine Below.trans ?_ (Below.mono (by assumption) (by first | omega | (simp; done) | (simp; omega)))))
  go_wp2_with fail
  refine (pick_any _ _ _ _ _ (hrd_q.below hall2) (by omega) (by omega)).mono ?_
  rintro e w_s ⟨s, rfl, s_0, s_1, hrd_s, ho_s, hsz_s⟩
  have s_u := s_1 (by omega)
  have hlt_s := hrd_s.lt
  clear s_1
  have HE1 := Lib.hid (own_only (HE0.out.alloc (.cells #[.int .i64 (20 + p), .int .i64 (q * 2), .slice (some ⟨w_q.heap.size, 0, none⟩) 0 0] 25)) ho_s (by omega))
  replace hO : Only g w w_s := (hO.trans (Only.of_below hall2)).trans ho_s
  replace hres := (hres.below hall2 hres.lt).only ho_s (by omega)
  replace hS := hS.only ho_s (by simp; omega)
  clear hall2 ho_s hsz_s hrd_q
  go_wp2_with fail
  refine (pick_any _ _ _ _ _ hrd_s (by omega) (by omega)).mono ?_
  rintro e w_t ⟨t, rfl, t_0, t_1, hrd_t, ho_t, hsz_t⟩
  have t_u := t_1 (by omega)
  have hlt_t := hrd_t.lt
  clear t_1
  have HE2 := Lib.hid (own_only HE1.out ho_t (by omega))
  replace hO : Only g w w_t := hO.trans ho_t
  replace hres := hres.only ho_t (by first | omega | (simp; done) | (simp; omega))
  replace hS := hS.only ho_t (by first | omega | (simp; done) | (simp; omega))
  obtain ⟨s, rfl⟩ := Int.eq_ofNat_of_zero_le s_0
  have HE := Lib.hid (own_more HE2.out (base' := w.heap.size) (by omega))
  clear ho_t hsz_t hrd_s hlt_s HE0 HE1 HE2 hlit
  simp only [World.size_alloc] at hS
  obtain ⟨gs, hgs⟩ : ∃ gs, w_q.heap.size + 1 = gs := ⟨_, rfl⟩
  rw [hgs] at hS
  have hgsw : w.heap.size < gs := by omega
  by_cases ht : t = 0
  · subst ht
    have hn14 : (14 : Nat) ≤ 14 := by omega
    go_wp2_with fail
    clear hgs
    go_loopw [5] (fun i wr => ∃ (k : Nat) (ea cr : Int) (u : Value) (xs : List Wt), k ≤ 14 ∧ i = .int .i64 k ∧ Bk wr gs 25 #[.int .i64 ea, .int .i64 cr, u] ∧ xs.length ≤ 12 ∧ wr.ownsRow w.heap.size 27 3 u xs.length (xs.flatMap Wt.c) ∧ Bk wr w.heap.size 25 #[.int .i64 0, .int .i64 0, .slice none 0 0] ∧ Rd wr B g (K + 4 + 50 * k) ∧ Only g w wr) (fun i _ => 14 - (intOf i).toNat)
    case atStart => exact ⟨0, _, _, _, [], by omega, rfl, hS, by simp, by simpa using HE.out, hres, hrd_t, hO⟩
    case round =>
      obtain ⟨k, ea, cr, u, xs, hk, rfl, hS, hx12, hown, hres, hrd, hO⟩ := hrel
      by_cases hlt : k < 14
      · have e0 : decide ((k : Int) < (14 : Nat)) = true := by simp; omega
        have hne := own_ne hown hS
        obtain ⟨A, c, rfl, hnc, hc, hsl⟩ := own_shape hown
        have hfar : ∀ k' o, A = some ⟨k', o, none⟩ → k' ≠ g ∧ k' < wr.heap.size := fun k' o e => by
          have := hown.lt k' (by rw [e]; rfl)
          omega
        have hsz := hS.lt
        have hrl := hres.lt
        have HOW := Lib.hid hown
        obtain ⟨KK, hKK⟩ : ∃ KK, K + 4 + 50 * k = KK := ⟨_, rfl⟩
        rw [hKK] at hrd
        have hKb : KK + 60 ≤ 1099511620000 := by omega
        have hgN : g < wr.heap.size := hrd.lt.2
        generalize hnl : xs.length = n at *
        generalize hN : wr.heap.size = N at *
        have hpb := hS
        clear hne
        go_wp2_with fail
        refine wp_region_inv (fun m w' => Rd w' B g (KK + 5 * m) ∧ StP N g wr w') (StP N g) (IM N g ea cr A n c) (by kernel_rfl) (by kernel_rfl) (by kernel_rfl) ⟨Rd.drew hrd, StP.drew (StP.refl _ _ _)⟩ IM.mono ⟨?_, ?_, ?_, ?_, ?_, ?_, ?_, ?_, ?_, ?_, trivial⟩ ?_
        · intro m y wv hm hb hd
          have hp := hpb.but hb.2.but (by show ¬ (gs = g ∨ N ≤ gs); omega)
          (try clear hp_c0); (try clear hp_f0)
          (try clear hp_c1); (try clear hp_f1)
          (try clear hp_c2); (try clear hp_f2)
          (try clear hp_lt)
          have hp_lt := hp.lt; (try simp only [World.size_alloc] at hp_lt)
          have hp_c0 := hp.cell 0; have hp_f0 := hp.frozen 0
          have hp_c1 := hp.cell 1; have hp_f1 := hp.frozen 1
          have hp_c2 := hp.cell 2; have hp_f2 := hp.frozen 2
          simp only [List.getElem?_toArray, List.getElem?_cons_zero, List.getElem?_cons_succ] at hp_c0 hp_c1 hp_c2
          have HB := Lib.hid hb
          clear hd hb
          refine ⟨?_⟩
          simp only [fill, Act.put, List.setIfInBounds_toArray, List.set_cons_zero, List.set_cons_succ]
          go_simp
          exact ⟨StP.refl _ _ _, ⟨HB.out.1.more (by omega), HB.out.2⟩, rfl⟩
        · intro m y wv hm hb hd
          have HB := Lib.hid hb
          clear hd hb
          refine ⟨?_⟩
          simp only [fill, Act.put, List.setIfInBounds_toArray, List.set_cons_zero, List.set_cons_succ]
          go_simp
          exact ⟨StP.refl _ _ _, ⟨HB.out.1.more (by omega), HB.out.2⟩, rfl⟩
        · intro m y wv hm hb hd
          have d1 := hd { on := 1, ground := .data } (by simp) (by kernel_rfl)
          replace d1 : y 1 = .pointer (some ⟨g, 0, none⟩) := d1
          obtain ⟨hcr, hco⟩ := hb
          have HO := Lib.hid hco
          replace hm : m < 10 := hm
          clear hd hco
          refine ⟨?_⟩
          simp only [fill, Act.put, List.setIfInBounds_toArray, List.set_cons_zero, List.set_cons_succ]
          go_simp
          refine (l92Waiting_any B g _ _ hcr (by omega)).mono ?_
          rintro e w2 ⟨x, rfl, hrd2, ho2⟩
          have hst := StP.of_only (N := N) ho2 hgN
          exact ⟨hst, ⟨hrd2.more (by omega), HO.out.trans hst⟩, x, rfl⟩
        · intro m y wv hm hb hd
          have d0 := hd { on := 0, ground := .data } (by simp) (by kernel_rfl)
          replace d0 : y 0 = .agg #[.int .i64 ea, .int .i64 cr, .slice A n c] := d0
          have d2 := hd { on := 2, ground := .data } (by simp) (by kernel_rfl)
          obtain ⟨x, d2⟩ := d2
          obtain ⟨hcr, hco⟩ := hb
          have hws : Wts wv wv.heap.size A n xs := Sl.more (Sl.but hsl hco.but (fun k o e => by show ¬ (k = g ∨ N ≤ k); have := hfar k o e; omega)) (by have := hco.but.size; omega)
          have hsv := hco.but.size
          have HO := Lib.hid hco
          have HW := Lib.hid hws
          replace hm : m < 10 := hm
          clear hd hco hws
          refine ⟨?_⟩
          simp only [fill, Act.put, List.setIfInBounds_toArray, List.set_cons_zero, List.set_cons_succ]
          go_simp
          refine (sput_any ea cr A n c xs x wv HW.out (by omega) hnc hc).mono ?_
          rintro e w2 ⟨a, b, q, r, rfl, hpf, hb2⟩
          have hst := StP.of_new (N := N) (g := g) hb2
          have hpf2 : PF N a b q w2 := by
            obtain ⟨e1, e2, e3, e4, e5, e6, e7⟩ := hpf
            exact ⟨e1, e2, e3, e4, e5, e6, own_more e7 (by omega)⟩
          exact ⟨hst, ⟨(hcr.below hb2).more (by omega), HO.out.trans hst⟩, a, b, q, r, rfl, hpf2⟩
        · intro m y wv hm hb hd
          have d3 := hd { on := 3, ground := .data } (by simp) (by kernel_rfl)
          obtain ⟨a, b, q, r, d3, hpf⟩ := d3
          have HPF := Lib.hid hpf
          have HB := Lib.hid hb
          clear hd hb hpf
          refine ⟨?_⟩
          simp only [fill, Act.put, List.setIfInBounds_toArray, List.set_cons_zero, List.set_cons_succ]
          go_simp
          exact ⟨StP.refl _ _ _, ⟨HB.out.1.more (by omega), HB.out.2⟩, _, _, _, _, rfl, HPF.out⟩
        · intro m y wv hm hb hd
          have d3 := hd { on := 4, ground := .data } (by simp) (by kernel_rfl)
          obtain ⟨a, b, q, r, d3, hpf⟩ := d3
          have HPF := Lib.hid hpf
          have HB := Lib.hid hb
          clear hd hb hpf
          refine ⟨?_⟩
          simp only [fill, Act.put, List.setIfInBounds_toArray, List.set_cons_zero, List.set_cons_succ]
          go_simp
          exact ⟨StP.refl _ _ _, ⟨HB.out.1.more (by omega), HB.out.2⟩, _, _, _, rfl, HPF.out⟩
        · intro m y wv hm hb hd
          have d3 := hd { on := 4, ground := .data } (by simp) (by kernel_rfl)
          obtain ⟨a, b, q, r, d3, hpf⟩ := d3
          have HB := Lib.hid hb
          clear hd hb hpf
          refine ⟨?_⟩
          simp only [fill, Act.put, List.setIfInBounds_toArray, List.set_cons_zero, List.set_cons_succ]
          go_simp
          exact ⟨StP.refl _ _ _, ⟨HB.out.1.more (by omega), HB.out.2⟩, _, rfl⟩
        · intro m y wv hm hb hd
          have hsv := hb.2.but.size
          have HB := Lib.hid hb
          clear hd hb
          refine ⟨?_⟩
          simp only [fill, Act.put, List.setIfInBounds_toArray, List.set_cons_zero, List.set_cons_succ]
          go_simp
          exact ⟨(StP.refl _ _ _).alloc _, ⟨(HB.out.1.below ((Below.refl _ _).alloc (Nat.le_refl _) _)).more (by omega), HB.out.2.alloc _⟩, _, rfl, by omega, _, _, _, Bk.new _ _ _, 0, 0, [], rfl, rfl, by simp, by simp, .inl ⟨rfl, rfl⟩⟩
        · intro m y wv hm hb hd
          have d7 := hd { on := 7, ground := .data } (by simp) (by kernel_rfl)
          obtain ⟨b, d7, hbN, v0, v1, v2, hbk, -⟩ := d7
          have d5 := hd { on := 5, ground := .data } (by simp) (by kernel_rfl)
          obtain ⟨a1, a2, q, d5, hpf⟩ := d5
          have hst := StP.store (g := g) hbN hbk hpf
          obtain ⟨e1, e2, e3, rfl, rfl, e6, e7⟩ := hpf
          obtain ⟨A9, c9, rfl, -⟩ := own_shape e7
          obtain ⟨hcr, hco⟩ := hb
          have HST := Lib.hid hst
          have HO := Lib.hid (hco.trans hst)
          have hgl := hcr.lt
          have HR := Lib.hid (show Rd (((wv.setCell ⟨b, 0, none⟩ (.int .i64 e1)).setCell ⟨b, 1, none⟩ (.int .i64 e2)).setCell ⟨b, 2, none⟩ (.slice A9 e3.length c9)) B g (KK + 5 * m) from Rd.setCell (Rd.setCell (Rd.setCell hcr (by show g < b; omega) _) (by show g < b; omega) _) (by show g < b; omega) _)
          (try clear hbk_c0); (try clear hbk_f0)
          (try clear hbk_c1); (try clear hbk_f1)
          (try clear hbk_c2); (try clear hbk_f2)
          (try clear hbk_lt)
          have hbk_lt := hbk.lt; (try simp only [World.size_alloc] at hbk_lt)
          have hbk_c0 := hbk.cell 0; have hbk_f0 := hbk.frozen 0
          have hbk_c1 := hbk.cell 1; have hbk_f1 := hbk.frozen 1
          have hbk_c2 := hbk.cell 2; have hbk_f2 := hbk.frozen 2
          simp only [List.getElem?_toArray, List.getElem?_cons_zero, List.getElem?_cons_succ] at hbk_c0 hbk_c1 hbk_c2
          clear hd hst hco e7 hcr
          refine ⟨?_⟩
          simp only [fill, Act.put, List.setIfInBounds_toArray, List.set_cons_zero, List.set_cons_succ]
          go_simp
          exact ⟨HST.out, ⟨HR.out.more (by omega), HO.out⟩, undef, trivial⟩
        · intro m y wv hm hb hd
          have d6 := hd { on := 6, ground := .data } (by simp) (by kernel_rfl)
          obtain ⟨r, d6⟩ := d6
          have HB := Lib.hid hb
          clear hd hb
          refine ⟨?_⟩
          simp only [fill, Act.put, List.setIfInBounds_toArray, List.set_cons_zero, List.set_cons_succ]
          go_simp
          exact ⟨StP.refl _ _ _, ⟨HB.out.1.more (by omega), HB.out.2⟩, r, rfl⟩
        · intro x wv ⟨hcr, hco⟩ hI
          replace hcr : Rd wv B g (KK + 50) := hcr
          obtain ⟨b, hx7, hbN, v0, v1, v2, hbk, ea', cr', xs', rfl, rfl, hl', hown'⟩ := hI 7 (by decide)
          obtain ⟨r, hx9⟩ := hI 9 (by decide)
          have hgsN : gs < N := hsz
          have hS2 := hS.but hco.but (by show ¬ (gs = g ∨ N ≤ gs); omega)
          have hres2 := hres.but hco.but (by show ¬ (w.heap.size = g ∨ N ≤ w.heap.size); omega)
          have hO2 : Only g w wv := hO.trans (hco.but.only fun k' h1 h2 => by rcases h2 with h2 | h2; exact h2; omega)
          have HOW2 := Lib.hid (own_but HOW.out hco.but fun k' h1 h2 => by
            have h3 := hfar k'
            have h4 := (HOW.out.lt k' h1).2
            have h5 := (HOW.out.lt k' h1).1
            rcases h2 with h2 | h2 <;> omega)
          clear hI hco hrd hpb hfar hS hres hO
          cases r
          · refine ⟨?_⟩
            simp only [fill, Act.put, List.setIfInBounds_toArray, List.set_cons_zero, List.set_cons_succ, hx7, hx9]
            go_wp2
            go_roundw
            case rel => exact ⟨k + 1, ea, cr, _, xs, by omega, by go_num, hS2, by omega, by rw [hnl]; exact HOW2.out, hres2, hcr.more (by omega), hO2⟩
            case measure => simp [intOf]; omega
          · obtain ⟨A2, c2, rfl, -⟩ := own_shape hown'
            have hneb := own_ne hown' hS2
            have HON := Lib.hid (own_more (own_only hown' ((((Only.refl gs wv).setCell (p := ⟨gs, 0, none⟩) (.inl rfl) (.int .i64 ea')).setCell (p := ⟨gs, 1, none⟩) (.inl rfl) (.int .i64 cr')).setCell (p := ⟨gs, 2, none⟩) (.inl rfl) (.slice A2 xs'.length c2)) hgsN) (base' := w.heap.size) (by omega))
            have HS3 := Lib.hid (((hS2.set_ 0 (.int .i64 ea')).set_ 1 (.int .i64 cr')).set_ 2 (.slice A2 xs'.length c2))
            clear hown' hneb
            (try clear hbk_c0); (try clear hbk_f0)
            (try clear hbk_c1); (try clear hbk_f1)
            (try clear hbk_c2); (try clear hbk_f2)
            (try clear hbk_lt)
            have hbk_lt := hbk.lt; (try simp only [World.size_alloc] at hbk_lt)
            have hbk_c0 := hbk.cell 0; have hbk_f0 := hbk.frozen 0
            have hbk_c1 := hbk.cell 1; have hbk_f1 := hbk.frozen 1
            have hbk_c2 := hbk.cell 2; have hbk_f2 := hbk.frozen 2
            simp only [List.getElem?_toArray, List.getElem?_cons_zero, List.getElem?_cons_succ] at hbk_c0 hbk_c1 hbk_c2
            (try clear hS2_c0); (try clear hS2_f0)
            (try clear hS2_c1); (try clear hS2_f1)
            (try clear hS2_c2); (try clear hS2_f2)
            (try clear hS2_lt)
            have hS2_lt := hS2.lt; (try simp only [World.size_alloc] at hS2_lt)
            have hS2_c0 := hS2.cell 0; have hS2_f0 := hS2.frozen 0
            have hS2_c1 := hS2.cell 1; have hS2_f1 := hS2.frozen 1
            have hS2_c2 := hS2.cell 2; have hS2_f2 := hS2.frozen 2
            simp only [List.getElem?_toArray, List.getElem?_cons_zero, List.getElem?_cons_succ] at hS2_c0 hS2_c1 hS2_c2
            refine ⟨?_⟩
            simp only [fill, Act.put, List.setIfInBounds_toArray, List.set_cons_zero, List.set_cons_succ, hx7, hx9]
            go_wp2
            go_roundw
            case rel =>
              refine ⟨k + 1, ea', cr', _, xs', by omega, by go_num, by simpa using HS3.out, hl', HON.out, ?_, ?_, ?_⟩
              · repeat (first | with_reducible exact hres2 | refine Bk.far ?_ (by show w.heap.size ≠ gs; omega) _)
              · exact Rd.more (K := KK + 50) (by repeat (first | with_reducible exact hcr | refine Rd.setCell ?_ (by show g < gs; omega) _)) (by omega)
              · repeat (first | with_reducible exact hO2 | refine Only.setCell ?_ (.inr (by show w.heap.size ≤ gs; omega)) _)
            case measure => simp [intOf]; omega
      · have e0 : decide ((k : Int) < (14 : Nat)) = false := by simp; omega
        have hkn : k = 14 := by omega
        subst hkn
        have hSl := hS.lt
        have hrl := hres.lt
        go_wp2_with fail
        go_wp2_with fail
        refine (pick_any _ _ _ _ _ hrd (by omega) (by omega)).mono ?_
        rintro e w_v ⟨v, rfl, v_0, v_1, hrd_v, ho_v, hsz_v⟩
        have v_u := v_1 (by omega)
        have hlt_v := hrd_v.lt
        clear v_1
        have hO3 : Only g w w_v := hO.trans ho_v
        have hown2 := own_only hown ho_v (by omega)
        replace hS := hS.only ho_v (by first | omega | (simp; done) | (simp; omega))
        (try clear hS_c0); (try clear hS_f0)
        (try clear hS_c1); (try clear hS_f1)
        (try clear hS_c2); (try clear hS_f2)
        (try clear hS_lt)
        have hS_lt := hS.lt; (try simp only [World.size_alloc] at hS_lt)
        have hS_c0 := hS.cell 0; have hS_f0 := hS.frozen 0
        have hS_c1 := hS.cell 1; have hS_f1 := hS.frozen 1
        have hS_c2 := hS.cell 2; have hS_f2 := hS.frozen 2
        simp only [List.getElem?_toArray, List.getElem?_cons_zero, List.getElem?_cons_succ] at hS_c0 hS_c1 hS_c2
        replace hres := hres.only ho_v (by first | omega | (simp; done) | (simp; omega))
        (try clear hres_c0); (try clear hres_f0)
        (try clear hres_c1); (try clear hres_f1)
        (try clear hres_c2); (try clear hres_f2)
        (try clear hres_lt)
        have hres_lt := hres.lt; (try simp only [World.size_alloc] at hres_lt)
        have hres_c0 := hres.cell 0; have hres_f0 := hres.frozen 0
        have hres_c1 := hres.cell 1; have hres_f1 := hres.frozen 1
        have hres_c2 := hres.cell 2; have hres_f2 := hres.frozen 2
        simp only [List.getElem?_toArray, List.getElem?_cons_zero, List.getElem?_cons_succ] at hres_c0 hres_c1 hres_c2
        obtain ⟨A2, c2, rfl, -⟩ := own_shape hown2
        have HNE := Lib.hid (show ∀ k', (Value.slice A2 xs.length c2).ownBlock = some k' → ¬ (k' = gs ∨ k' = w.heap.size) from fun k' hk' he => by
          rcases he with he | he
          · exact own_ne hown2 hS k' hk' he
          · exact own_ne hown2 hres k' hk' he)
        have HON := Lib.hid hown2
        clear ho_v hsz_v hrd hown hown2 hO
        by_cases h0 : v = 0
        · subst h0
          go_wp2_with fail
          have hnew := Bk.new w_v 3 #[.int .i64 (0), .int .i64 (1), .int .i64 (1501)]
          have hall := fun o => (Below.refl w_v.heap.size w_v).alloc (Nat.le_refl _) o
          go_wp2_with fail
          refine (pick_any _ _ _ _ _ (hrd_v.below (hall _)) (by omega) (by omega)).mono ?_
          rintro e w_uu ⟨uu, rfl, uu_0, uu_1, hrd_uu, ho_uu, hsz_uu⟩
          have uu_u := uu_1 (by omega)
          have hlt_uu := hrd_uu.lt
          clear uu_1
          obtain ⟨k', rfl⟩ := Int.eq_ofNat_of_zero_le uu_0
          obtain ⟨z, hz, z0, z1⟩ := lit_cell [0, 1, 1501] (0) 1501 (hnew.only ho_uu (by omega)) (by decide) (k := k') (by simp; omega)
          have hO4 := (hO3.trans (Only.of_below (hall _))).trans ho_uu
          have hS4 := (hS.below (hall _) hS.lt).only ho_uu (by omega)
          have hres4 := (hres.below (hall _) hres.lt).only ho_uu (by omega)
          have HON4 := Lib.hid (own_only (own_below HON.out (hall _)) ho_uu (by omega))
          clear hnew hall ho_uu hsz_uu hrd_v
          (try clear hS_c0); (try clear hS_f0)
          (try clear hS_c1); (try clear hS_f1)
          (try clear hS_c2); (try clear hS_f2)
          (try clear hS_lt)
          (try clear hres_c0); (try clear hres_f0)
          (try clear hres_c1); (try clear hres_f1)
          (try clear hres_c2); (try clear hres_f2)
          (try clear hres_lt)
          (try clear hS4_c0); (try clear hS4_f0)
          (try clear hS4_c1); (try clear hS4_f1)
          (try clear hS4_c2); (try clear hS4_f2)
          (try clear hS4_lt)
          have hS4_lt := hS4.lt; (try simp only [World.size_alloc] at hS4_lt)
          have hS4_c0 := hS4.cell 0; have hS4_f0 := hS4.frozen 0
          have hS4_c1 := hS4.cell 1; have hS4_f1 := hS4.frozen 1
          have hS4_c2 := hS4.cell 2; have hS4_f2 := hS4.frozen 2
          simp only [List.getElem?_toArray, List.getElem?_cons_zero, List.getElem?_cons_succ] at hS4_c0 hS4_c1 hS4_c2
          (try clear hres4_c0); (try clear hres4_f0)
          (try clear hres4_c1); (try clear hres4_f1)
          (try clear hres4_c2); (try clear hres4_f2)
          (try clear hres4_lt)
          have hres4_lt := hres4.lt; (try simp only [World.size_alloc] at hres4_lt)
          have hres4_c0 := hres4.cell 0; have hres4_f0 := hres4.frozen 0
          have hres4_c1 := hres4.cell 1; have hres4_f1 := hres4.frozen 1
          have hres4_c2 := hres4.cell 2; have hres4_f2 := hres4.frozen 2
          simp only [List.getElem?_toArray, List.getElem?_cons_zero, List.getElem?_cons_succ] at hres4_c0 hres4_c1 hres4_c2
          go_wp2
          refine ⟨rfl, ?_⟩
          apply Exists.intro
          apply And.intro
          · simp [results, Try.results35, go_sem, hres4_c0, hres4_c1, hres4_c2, hS4_c0, hS4_c1, hS4_c2, hres4_lt, hS4_lt]; exact rfl
          · exact ⟨_, _, _, rfl, ⟨_, _, xs, rfl, rfl, hx12, own_but HON4.out (X := fun k' => k' = gs ∨ k' = w.heap.size) (by repeat (first | with_reducible exact But.refl _ _ | refine But.setCell ?_ (.inl (by first | exact .inl rfl | exact .inr rfl)) _)) HNE.out⟩, Rd.more (K := K + 4 + 50 * 14 + 1 + 1) (by repeat (first | with_reducible exact hrd_uu | refine Rd.setCell ?_ (by first | (show g < gs; omega) | (show g < w.heap.size; omega)) _)) (by omega), (by repeat (first | with_reducible exact hO4 | refine Only.setCell ?_ (.inr (by first | (show w.heap.size ≤ gs; omega) | exact Nat.le_refl _)) _))⟩
        · have g1 : (v == 0) = false := by simpa using h0
          by_cases h1 : v = 1
          · subst h1
            go_wp2_with fail
            have hnew := Bk.new w_v 3 #[.int .i64 (-1), .int .i64 (3000), .int .i64 (3001)]
            have hall := fun o => (Below.refl w_v.heap.size w_v).alloc (Nat.le_refl _) o
            go_wp2_with fail
            refine (pick_any _ _ _ _ _ (hrd_v.below (hall _)) (by omega) (by omega)).mono ?_
            rintro e w_uu ⟨uu, rfl, uu_0, uu_1, hrd_uu, ho_uu, hsz_uu⟩
            have uu_u := uu_1 (by omega)
            have hlt_uu := hrd_uu.lt
            clear uu_1
            obtain ⟨k', rfl⟩ := Int.eq_ofNat_of_zero_le uu_0
            obtain ⟨z, hz, z0, z1⟩ := lit_cell [-1, 3000, 3001] (-1) 3001 (hnew.only ho_uu (by omega)) (by decide) (k := k') (by simp; omega)
            have hO4 := (hO3.trans (Only.of_below (hall _))).trans ho_uu
            have hS4 := (hS.below (hall _) hS.lt).only ho_uu (by omega)
            have hres4 := (hres.below (hall _) hres.lt).only ho_uu (by omega)
            have HON4 := Lib.hid (own_only (own_below HON.out (hall _)) ho_uu (by omega))
            clear hnew hall ho_uu hsz_uu hrd_v
            (try clear hS_c0); (try clear hS_f0)
            (try clear hS_c1); (try clear hS_f1)
            (try clear hS_c2); (try clear hS_f2)
            (try clear hS_lt)
            (try clear hres_c0); (try clear hres_f0)
            (try clear hres_c1); (try clear hres_f1)
            (try clear hres_c2); (try clear hres_f2)
            (try clear hres_lt)
            (try clear hS4_c0); (try clear hS4_f0)
            (try clear hS4_c1); (try clear hS4_f1)
            (try clear hS4_c2); (try clear hS4_f2)
            (try clear hS4_lt)
            have hS4_lt := hS4.lt; (try simp only [World.size_alloc] at hS4_lt)
            have hS4_c0 := hS4.cell 0; have hS4_f0 := hS4.frozen 0
            have hS4_c1 := hS4.cell 1; have hS4_f1 := hS4.frozen 1
            have hS4_c2 := hS4.cell 2; have hS4_f2 := hS4.frozen 2
            simp only [List.getElem?_toArray, List.getElem?_cons_zero, List.getElem?_cons_succ] at hS4_c0 hS4_c1 hS4_c2
            (try clear hres4_c0); (try clear hres4_f0)
            (try clear hres4_c1); (try clear hres4_f1)
            (try clear hres4_c2); (try clear hres4_f2)
            (try clear hres4_lt)
            have hres4_lt := hres4.lt; (try simp only [World.size_alloc] at hres4_lt)
            have hres4_c0 := hres4.cell 0; have hres4_f0 := hres4.frozen 0
            have hres4_c1 := hres4.cell 1; have hres4_f1 := hres4.frozen 1
            have hres4_c2 := hres4.cell 2; have hres4_f2 := hres4.frozen 2
            simp only [List.getElem?_toArray, List.getElem?_cons_zero, List.getElem?_cons_succ] at hres4_c0 hres4_c1 hres4_c2
            go_wp2
            refine ⟨rfl, ?_⟩
            apply Exists.intro
            apply And.intro
            · simp [results, Try.results35, go_sem, hres4_c0, hres4_c1, hres4_c2, hS4_c0, hS4_c1, hS4_c2, hres4_lt, hS4_lt]; exact rfl
            · exact ⟨_, _, _, rfl, ⟨_, _, xs, rfl, rfl, hx12, own_but HON4.out (X := fun k' => k' = gs ∨ k' = w.heap.size) (by repeat (first | with_reducible exact But.refl _ _ | refine But.setCell ?_ (.inl (by first | exact .inl rfl | exact .inr rfl)) _)) HNE.out⟩, Rd.more (K := K + 4 + 50 * 14 + 1 + 1) (by repeat (first | with_reducible exact hrd_uu | refine Rd.setCell ?_ (by first | (show g < gs; omega) | (show g < w.heap.size; omega)) _)) (by omega), (by repeat (first | with_reducible exact hO4 | refine Only.setCell ?_ (.inr (by first | (show w.heap.size ≤ gs; omega) | exact Nat.le_refl _)) _))⟩
          · have g2 : (v == 1) = false := by simpa using h1
            go_wp2
            refine ⟨rfl, ?_⟩
            apply Exists.intro
            apply And.intro
            · simp [results, Try.results35, go_sem, hres_c0, hres_c1, hres_c2, hS_c0, hS_c1, hS_c2, hres_lt, hS_lt]; exact rfl
            · exact ⟨_, _, _, rfl, ⟨_, _, xs, rfl, rfl, hx12, own_but HON.out (X := fun k' => k' = gs ∨ k' = w.heap.size) (by repeat (first | with_reducible exact But.refl _ _ | refine But.setCell ?_ (.inl (by first | exact .inl rfl | exact .inr rfl)) _)) HNE.out⟩, Rd.more (K := K + 4 + 50 * 14 + 1) (by repeat (first | with_reducible exact hrd_v | refine Rd.setCell ?_ (by first | (show g < gs; omega) | (show g < w.heap.size; omega)) _)) (by omega), (by repeat (first | with_reducible exact hO3 | refine Only.setCell ?_ (.inr (by first | (show w.heap.size ≤ gs; omega) | exact Nat.le_refl _)) _))⟩
  · have g0 : (t == 0) = false := by simpa using ht
    have hn14 : (s : Nat) ≤ 14 := by omega
    go_wp2_with fail
    clear hgs
    go_loopw [5] (fun i wr => ∃ (k : Nat) (ea cr : Int) (u : Value) (xs : List Wt), k ≤ s ∧ i = .int .i64 k ∧ Bk wr gs 25 #[.int .i64 ea, .int .i64 cr, u] ∧ xs.length ≤ 12 ∧ wr.ownsRow w.heap.size 27 3 u xs.length (xs.flatMap Wt.c) ∧ Bk wr w.heap.size 25 #[.int .i64 0, .int .i64 0, .slice none 0 0] ∧ Rd wr B g (K + 4 + 50 * k) ∧ Only g w wr) (fun i _ => s - (intOf i).toNat)
    case atStart => exact ⟨0, _, _, _, [], by omega, rfl, hS, by simp, by simpa using HE.out, hres, hrd_t, hO⟩
    case round =>
      obtain ⟨k, ea, cr, u, xs, hk, rfl, hS, hx12, hown, hres, hrd, hO⟩ := hrel
      by_cases hlt : k < s
      · have e0 : decide ((k : Int) < (s : Nat)) = true := by simp; omega
        have hne := own_ne hown hS
        obtain ⟨A, c, rfl, hnc, hc, hsl⟩ := own_shape hown
        have hfar : ∀ k' o, A = some ⟨k', o, none⟩ → k' ≠ g ∧ k' < wr.heap.size := fun k' o e => by
          have := hown.lt k' (by rw [e]; rfl)
          omega
        have hsz := hS.lt
        have hrl := hres.lt
        have HOW := Lib.hid hown
        obtain ⟨KK, hKK⟩ : ∃ KK, K + 4 + 50 * k = KK := ⟨_, rfl⟩
        rw [hKK] at hrd
        have hKb : KK + 60 ≤ 1099511620000 := by omega
        have hgN : g < wr.heap.size := hrd.lt.2
        generalize hnl : xs.length = n at *
        generalize hN : wr.heap.size = N at *
        have hpb := hS
        clear hne
        go_wp2_with fail
        refine wp_region_inv (fun m w' => Rd w' B g (KK + 5 * m) ∧ StP N g wr w') (StP N g) (IM N g ea cr A n c) (by kernel_rfl) (by kernel_rfl) (by kernel_rfl) ⟨Rd.drew hrd, StP.drew (StP.refl _ _ _)⟩ IM.mono ⟨?_, ?_, ?_, ?_, ?_, ?_, ?_, ?_, ?_, ?_, trivial⟩ ?_
        · intro m y wv hm hb hd
          have hp := hpb.but hb.2.but (by show ¬ (gs = g ∨ N ≤ gs); omega)
          (try clear hp_c0); (try clear hp_f0)
          (try clear hp_c1); (try clear hp_f1)
          (try clear hp_c2); (try clear hp_f2)
          (try clear hp_lt)
          have hp_lt := hp.lt; (try simp only [World.size_alloc] at hp_lt)
          have hp_c0 := hp.cell 0; have hp_f0 := hp.frozen 0
          have hp_c1 := hp.cell 1; have hp_f1 := hp.frozen 1
          have hp_c2 := hp.cell 2; have hp_f2 := hp.frozen 2
          simp only [List.getElem?_toArray, List.getElem?_cons_zero, List.getElem?_cons_succ] at hp_c0 hp_c1 hp_c2
          have HB := Lib.hid hb
          clear hd hb
          refine ⟨?_⟩
          simp only [fill, Act.put, List.setIfInBounds_toArray, List.set_cons_zero, List.set_cons_succ]
          go_simp
          exact ⟨StP.refl _ _ _, ⟨HB.out.1.more (by omega), HB.out.2⟩, rfl⟩
        · intro m y wv hm hb hd
          have HB := Lib.hid hb
          clear hd hb
          refine ⟨?_⟩
          simp only [fill, Act.put, List.setIfInBounds_toArray, List.set_cons_zero, List.set_cons_succ]
          go_simp
          exact ⟨StP.refl _ _ _, ⟨HB.out.1.more (by omega), HB.out.2⟩, rfl⟩
        · intro m y wv hm hb hd
          have d1 := hd { on := 1, ground := .data } (by simp) (by kernel_rfl)
          replace d1 : y 1 = .pointer (some ⟨g, 0, none⟩) := d1
          obtain ⟨hcr, hco⟩ := hb
          have HO := Lib.hid hco
          replace hm : m < 10 := hm
          clear hd hco
          refine ⟨?_⟩
          simp only [fill, Act.put, List.setIfInBounds_toArray, List.set_cons_zero, List.set_cons_succ]
          go_simp
          refine (l92Waiting_any B g _ _ hcr (by omega)).mono ?_
          rintro e w2 ⟨x, rfl, hrd2, ho2⟩
          have hst := StP.of_only (N := N) ho2 hgN
          exact ⟨hst, ⟨hrd2.more (by omega), HO.out.trans hst⟩, x, rfl⟩
        · intro m y wv hm hb hd
          have d0 := hd { on := 0, ground := .data } (by simp) (by kernel_rfl)
          replace d0 : y 0 = .agg #[.int .i64 ea, .int .i64 cr, .slice A n c] := d0
          have d2 := hd { on := 2, ground := .data } (by simp) (by kernel_rfl)
          obtain ⟨x, d2⟩ := d2
          obtain ⟨hcr, hco⟩ := hb
          have hws : Wts wv wv.heap.size A n xs := Sl.more (Sl.but hsl hco.but (fun k o e => by show ¬ (k = g ∨ N ≤ k); have := hfar k o e; omega)) (by have := hco.but.size; omega)
          have hsv := hco.but.size
          have HO := Lib.hid hco
          have HW := Lib.hid hws
          replace hm : m < 10 := hm
          clear hd hco hws
          refine ⟨?_⟩
          simp only [fill, Act.put, List.setIfInBounds_toArray, List.set_cons_zero, List.set_cons_succ]
          go_simp
          refine (sput_any ea cr A n c xs x wv HW.out (by omega) hnc hc).mono ?_
          rintro e w2 ⟨a, b, q, r, rfl, hpf, hb2⟩
          have hst := StP.of_new (N := N) (g := g) hb2
          have hpf2 : PF N a b q w2 := by
            obtain ⟨e1, e2, e3, e4, e5, e6, e7⟩ := hpf
            exact ⟨e1, e2, e3, e4, e5, e6, own_more e7 (by omega)⟩
          exact ⟨hst, ⟨(hcr.below hb2).more (by omega), HO.out.trans hst⟩, a, b, q, r, rfl, hpf2⟩
        · intro m y wv hm hb hd
          have d3 := hd { on := 3, ground := .data } (by simp) (by kernel_rfl)
          obtain ⟨a, b, q, r, d3, hpf⟩ := d3
          have HPF := Lib.hid hpf
          have HB := Lib.hid hb
          clear hd hb hpf
          refine ⟨?_⟩
          simp only [fill, Act.put, List.setIfInBounds_toArray, List.set_cons_zero, List.set_cons_succ]
          go_simp
          exact ⟨StP.refl _ _ _, ⟨HB.out.1.more (by omega), HB.out.2⟩, _, _, _, _, rfl, HPF.out⟩
        · intro m y wv hm hb hd
          have d3 := hd { on := 4, ground := .data } (by simp) (by kernel_rfl)
          obtain ⟨a, b, q, r, d3, hpf⟩ := d3
          have HPF := Lib.hid hpf
          have HB := Lib.hid hb
          clear hd hb hpf
          refine ⟨?_⟩
          simp only [fill, Act.put, List.setIfInBounds_toArray, List.set_cons_zero, List.set_cons_succ]
          go_simp
          exact ⟨StP.refl _ _ _, ⟨HB.out.1.more (by omega), HB.out.2⟩, _, _, _, rfl, HPF.out⟩
        · intro m y wv hm hb hd
          have d3 := hd { on := 4, ground := .data } (by simp) (by kernel_rfl)
          obtain ⟨a, b, q, r, d3, hpf⟩ := d3
          have HB := Lib.hid hb
          clear hd hb hpf
          refine ⟨?_⟩
          simp only [fill, Act.put, List.setIfInBounds_toArray, List.set_cons_zero, List.set_cons_succ]
          go_simp
          exact ⟨StP.refl _ _ _, ⟨HB.out.1.more (by omega), HB.out.2⟩, _, rfl⟩
        · intro m y wv hm hb hd
          have hsv := hb.2.but.size
          have HB := Lib.hid hb
          clear hd hb
          refine ⟨?_⟩
          simp only [fill, Act.put, List.setIfInBounds_toArray, List.set_cons_zero, List.set_cons_succ]
          go_simp
          exact ⟨(StP.refl _ _ _).alloc _, ⟨(HB.out.1.below ((Below.refl _ _).alloc (Nat.le_refl _) _)).more (by omega), HB.out.2.alloc _⟩, _, rfl, by omega, _, _, _, Bk.new _ _ _, 0, 0, [], rfl, rfl, by simp, by simp, .inl ⟨rfl, rfl⟩⟩
        · intro m y wv hm hb hd
          have d7 := hd { on := 7, ground := .data } (by simp) (by kernel_rfl)
          obtain ⟨b, d7, hbN, v0, v1, v2, hbk, -⟩ := d7
          have d5 := hd { on := 5, ground := .data } (by simp) (by kernel_rfl)
          obtain ⟨a1, a2, q, d5, hpf⟩ := d5
          have hst := StP.store (g := g) hbN hbk hpf
          obtain ⟨e1, e2, e3, rfl, rfl, e6, e7⟩ := hpf
          obtain ⟨A9, c9, rfl, -⟩ := own_shape e7
          obtain ⟨hcr, hco⟩ := hb
          have HST := Lib.hid hst
          have HO := Lib.hid (hco.trans hst)
          have hgl := hcr.lt
          have HR := Lib.hid (show Rd (((wv.setCell ⟨b, 0, none⟩ (.int .i64 e1)).setCell ⟨b, 1, none⟩ (.int .i64 e2)).setCell ⟨b, 2, none⟩ (.slice A9 e3.length c9)) B g (KK + 5 * m) from Rd.setCell (Rd.setCell (Rd.setCell hcr (by show g < b; omega) _) (by show g < b; omega) _) (by show g < b; omega) _)
          (try clear hbk_c0); (try clear hbk_f0)
          (try clear hbk_c1); (try clear hbk_f1)
          (try clear hbk_c2); (try clear hbk_f2)
          (try clear hbk_lt)
          have hbk_lt := hbk.lt; (try simp only [World.size_alloc] at hbk_lt)
          have hbk_c0 := hbk.cell 0; have hbk_f0 := hbk.frozen 0
          have hbk_c1 := hbk.cell 1; have hbk_f1 := hbk.frozen 1
          have hbk_c2 := hbk.cell 2; have hbk_f2 := hbk.frozen 2
          simp only [List.getElem?_toArray, List.getElem?_cons_zero, List.getElem?_cons_succ] at hbk_c0 hbk_c1 hbk_c2
          clear hd hst hco e7 hcr
          refine ⟨?_⟩
          simp only [fill, Act.put, List.setIfInBounds_toArray, List.set_cons_zero, List.set_cons_succ]
          go_simp
          exact ⟨HST.out, ⟨HR.out.more (by omega), HO.out⟩, undef, trivial⟩
        · intro m y wv hm hb hd
          have d6 := hd { on := 6, ground := .data } (by simp) (by kernel_rfl)
          obtain ⟨r, d6⟩ := d6
          have HB := Lib.hid hb
          clear hd hb
          refine ⟨?_⟩
          simp only [fill, Act.put, List.setIfInBounds_toArray, List.set_cons_zero, List.set_cons_succ]
          go_simp
          exact ⟨StP.refl _ _ _, ⟨HB.out.1.more (by omega), HB.out.2⟩, r, rfl⟩
        · intro x wv ⟨hcr, hco⟩ hI
          replace hcr : Rd wv B g (KK + 50) := hcr
          obtain ⟨b, hx7, hbN, v0, v1, v2, hbk, ea', cr', xs', rfl, rfl, hl', hown'⟩ := hI 7 (by decide)
          obtain ⟨r, hx9⟩ := hI 9 (by decide)
          have hgsN : gs < N := hsz
          have hS2 := hS.but hco.but (by show ¬ (gs = g ∨ N ≤ gs); omega)
          have hres2 := hres.but hco.but (by show ¬ (w.heap.size = g ∨ N ≤ w.heap.size); omega)
          have hO2 : Only g w wv := hO.trans (hco.but.only fun k' h1 h2 => by rcases h2 with h2 | h2; exact h2; omega)
          have HOW2 := Lib.hid (own_but HOW.out hco.but fun k' h1 h2 => by
            have h3 := hfar k'
            have h4 := (HOW.out.lt k' h1).2
            have h5 := (HOW.out.lt k' h1).1
            rcases h2 with h2 | h2 <;> omega)
          clear hI hco hrd hpb hfar hS hres hO
          cases r
          · refine ⟨?_⟩
            simp only [fill, Act.put, List.setIfInBounds_toArray, List.set_cons_zero, List.set_cons_succ, hx7, hx9]
            go_wp2
            go_roundw
            case rel => exact ⟨k + 1, ea, cr, _, xs, by omega, by go_num, hS2, by omega, by rw [hnl]; exact HOW2.out, hres2, hcr.more (by omega), hO2⟩
            case measure => simp [intOf]; omega
          · obtain ⟨A2, c2, rfl, -⟩ := own_shape hown'
            have hneb := own_ne hown' hS2
            have HON := Lib.hid (own_more (own_only hown' ((((Only.refl gs wv).setCell (p := ⟨gs, 0, none⟩) (.inl rfl) (.int .i64 ea')).setCell (p := ⟨gs, 1, none⟩) (.inl rfl) (.int .i64 cr')).setCell (p := ⟨gs, 2, none⟩) (.inl rfl) (.slice A2 xs'.length c2)) hgsN) (base' := w.heap.size) (by omega))
            have HS3 := Lib.hid (((hS2.set_ 0 (.int .i64 ea')).set_ 1 (.int .i64 cr')).set_ 2 (.slice A2 xs'.length c2))
            clear hown' hneb
            (try clear hbk_c0); (try clear hbk_f0)
            (try clear hbk_c1); (try clear hbk_f1)
            (try clear hbk_c2); (try clear hbk_f2)
            (try clear hbk_lt)
            have hbk_lt := hbk.lt; (try simp only [World.size_alloc] at hbk_lt)
            have hbk_c0 := hbk.cell 0; have hbk_f0 := hbk.frozen 0
            have hbk_c1 := hbk.cell 1; have hbk_f1 := hbk.frozen 1
            have hbk_c2 := hbk.cell 2; have hbk_f2 := hbk.frozen 2
            simp only [List.getElem?_toArray, List.getElem?_cons_zero, List.getElem?_cons_succ] at hbk_c0 hbk_c1 hbk_c2
            (try clear hS2_c0); (try clear hS2_f0)
            (try clear hS2_c1); (try clear hS2_f1)
            (try clear hS2_c2); (try clear hS2_f2)
            (try clear hS2_lt)
            have hS2_lt := hS2.lt; (try simp only [World.size_alloc] at hS2_lt)
            have hS2_c0 := hS2.cell 0; have hS2_f0 := hS2.frozen 0
            have hS2_c1 := hS2.cell 1; have hS2_f1 := hS2.frozen 1
            have hS2_c2 := hS2.cell 2; have hS2_f2 := hS2.frozen 2
            simp only [List.getElem?_toArray, List.getElem?_cons_zero, List.getElem?_cons_succ] at hS2_c0 hS2_c1 hS2_c2
            refine ⟨?_⟩
            simp only [fill, Act.put, List.setIfInBounds_toArray, List.set_cons_zero, List.set_cons_succ, hx7, hx9]
            go_wp2
            go_roundw
            case rel =>
              refine ⟨k + 1, ea', cr', _, xs', by omega, by go_num, by simpa using HS3.out, hl', HON.out, ?_, ?_, ?_⟩
              · repeat (first | with_reducible exact hres2 | refine Bk.far ?_ (by show w.heap.size ≠ gs; omega) _)
              · exact Rd.more (K := KK + 50) (by repeat (first | with_reducible exact hcr | refine Rd.setCell ?_ (by show g < gs; omega) _)) (by omega)
              · repeat (first | with_reducible exact hO2 | refine Only.setCell ?_ (.inr (by show w.heap.size ≤ gs; omega)) _)
            case measure => simp [intOf]; omega
      · have e0 : decide ((k : Int) < (s : Nat)) = false := by simp; omega
        have hkn : k = s := by omega
        subst hkn
        have hSl := hS.lt
        have hrl := hres.lt
        go_wp2_with fail
        go_wp2_with fail
        refine (pick_any _ _ _ _ _ hrd (by omega) (by omega)).mono ?_
        rintro e w_v ⟨v, rfl, v_0, v_1, hrd_v, ho_v, hsz_v⟩
        have v_u := v_1 (by omega)
        have hlt_v := hrd_v.lt
        clear v_1
        have hO3 : Only g w w_v := hO.trans ho_v
        have hown2 := own_only hown ho_v (by omega)
        replace hS := hS.only ho_v (by first | omega | (simp; done) | (simp; omega))
        (try clear hS_c0); (try clear hS_f0)
        (try clear hS_c1); (try clear hS_f1)
        (try clear hS_c2); (try clear hS_f2)
        (try clear hS_lt)
        have hS_lt := hS.lt; (try simp only [World.size_alloc] at hS_lt)
        have hS_c0 := hS.cell 0; have hS_f0 := hS.frozen 0
        have hS_c1 := hS.cell 1; have hS_f1 := hS.frozen 1
        have hS_c2 := hS.cell 2; have hS_f2 := hS.frozen 2
        simp only [List.getElem?_toArray, List.getElem?_cons_zero, List.getElem?_cons_succ] at hS_c0 hS_c1 hS_c2
        replace hres := hres.only ho_v (by first | omega | (simp; done) | (simp; omega))
        (try clear hres_c0); (try clear hres_f0)
        (try clear hres_c1); (try clear hres_f1)
        (try clear hres_c2); (try clear hres_f2)
        (try clear hres_lt)
        have hres_lt := hres.lt; (try simp only [World.size_alloc] at hres_lt)
        have hres_c0 := hres.cell 0; have hres_f0 := hres.frozen 0
        have hres_c1 := hres.cell 1; have hres_f1 := hres.frozen 1
        have hres_c2 := hres.cell 2; have hres_f2 := hres.frozen 2
        simp only [List.getElem?_toArray, List.getElem?_cons_zero, List.getElem?_cons_succ] at hres_c0 hres_c1 hres_c2
        obtain ⟨A2, c2, rfl, -⟩ := own_shape hown2
        have HNE := Lib.hid (show ∀ k', (Value.slice A2 xs.length c2).ownBlock = some k' → ¬ (k' = gs ∨ k' = w.heap.size) from fun k' hk' he => by
          rcases he with he | he
          · exact own_ne hown2 hS k' hk' he
          · exact own_ne hown2 hres k' hk' he)
        have HON := Lib.hid hown2
        clear ho_v hsz_v hrd hown hown2 hO
        by_cases h0 : v = 0
        · subst h0
          go_wp2_with fail
          have hnew := Bk.new w_v 3 #[.int .i64 (0), .int .i64 (1), .int .i64 (1501)]
          have hall := fun o => (Below.refl w_v.heap.size w_v).alloc (Nat.le_refl _) o
          go_wp2_with fail
          refine (pick_any _ _ _ _ _ (hrd_v.below (hall _)) (by omega) (by omega)).mono ?_
          rintro e w_uu ⟨uu, rfl, uu_0, uu_1, hrd_uu, ho_uu, hsz_uu⟩
          have uu_u := uu_1 (by omega)
          have hlt_uu := hrd_uu.lt
          clear uu_1
          obtain ⟨k', rfl⟩ := Int.eq_ofNat_of_zero_le uu_0
          obtain ⟨z, hz, z0, z1⟩ := lit_cell [0, 1, 1501] (0) 1501 (hnew.only ho_uu (by omega)) (by decide) (k := k') (by simp; omega)
          have hO4 := (hO3.trans (Only.of_below (hall _))).trans ho_uu
          have hS4 := (hS.below (hall _) hS.lt).only ho_uu (by omega)
          have hres4 := (hres.below (hall _) hres.lt).only ho_uu (by omega)
          have HON4 := Lib.hid (own_only (own_below HON.out (hall _)) ho_uu (by omega))
          clear hnew hall ho_uu hsz_uu hrd_v
          (try clear hS_c0); (try clear hS_f0)
          (try clear hS_c1); (try clear hS_f1)
          (try clear hS_c2); (try clear hS_f2)
          (try clear hS_lt)
          (try clear hres_c0); (try clear hres_f0)
          (try clear hres_c1); (try clear hres_f1)
          (try clear hres_c2); (try clear hres_f2)
          (try clear hres_lt)
          (try clear hS4_c0); (try clear hS4_f0)
          (try clear hS4_c1); (try clear hS4_f1)
          (try clear hS4_c2); (try clear hS4_f2)
          (try clear hS4_lt)
          have hS4_lt := hS4.lt; (try simp only [World.size_alloc] at hS4_lt)
          have hS4_c0 := hS4.cell 0; have hS4_f0 := hS4.frozen 0
          have hS4_c1 := hS4.cell 1; have hS4_f1 := hS4.frozen 1
          have hS4_c2 := hS4.cell 2; have hS4_f2 := hS4.frozen 2
          simp only [List.getElem?_toArray, List.getElem?_cons_zero, List.getElem?_cons_succ] at hS4_c0 hS4_c1 hS4_c2
          (try clear hres4_c0); (try clear hres4_f0)
          (try clear hres4_c1); (try clear hres4_f1)
          (try clear hres4_c2); (try clear hres4_f2)
          (try clear hres4_lt)
          have hres4_lt := hres4.lt; (try simp only [World.size_alloc] at hres4_lt)
          have hres4_c0 := hres4.cell 0; have hres4_f0 := hres4.frozen 0
          have hres4_c1 := hres4.cell 1; have hres4_f1 := hres4.frozen 1
          have hres4_c2 := hres4.cell 2; have hres4_f2 := hres4.frozen 2
          simp only [List.getElem?_toArray, List.getElem?_cons_zero, List.getElem?_cons_succ] at hres4_c0 hres4_c1 hres4_c2
          go_wp2
          refine ⟨rfl, ?_⟩
          apply Exists.intro
          apply And.intro
          · simp [results, Try.results35, go_sem, hres4_c0, hres4_c1, hres4_c2, hS4_c0, hS4_c1, hS4_c2, hres4_lt, hS4_lt]; exact rfl
          · exact ⟨_, _, _, rfl, ⟨_, _, xs, rfl, rfl, hx12, own_but HON4.out (X := fun k' => k' = gs ∨ k' = w.heap.size) (by repeat (first | with_reducible exact But.refl _ _ | refine But.setCell ?_ (.inl (by first | exact .inl rfl | exact .inr rfl)) _)) HNE.out⟩, Rd.more (K := K + 4 + 50 * k + 1 + 1) (by repeat (first | with_reducible exact hrd_uu | refine Rd.setCell ?_ (by first | (show g < gs; omega) | (show g < w.heap.size; omega)) _)) (by omega), (by repeat (first | with_reducible exact hO4 | refine Only.setCell ?_ (.inr (by first | (show w.heap.size ≤ gs; omega) | exact Nat.le_refl _)) _))⟩
        · have g1 : (v == 0) = false := by simpa using h0
          by_cases h1 : v = 1
          · subst h1
            go_wp2_with fail
            have hnew := Bk.new w_v 3 #[.int .i64 (-1), .int .i64 (3000), .int .i64 (3001)]
            have hall := fun o => (Below.refl w_v.heap.size w_v).alloc (Nat.le_refl _) o
            go_wp2_with fail
            refine (pick_any _ _ _ _ _ (hrd_v.below (hall _)) (by omega) (by omega)).mono ?_
            rintro e w_uu ⟨uu, rfl, uu_0, uu_1, hrd_uu, ho_uu, hsz_uu⟩
            have uu_u := uu_1 (by omega)
            have hlt_uu := hrd_uu.lt
            clear uu_1
            obtain ⟨k', rfl⟩ := Int.eq_ofNat_of_zero_le uu_0
            obtain ⟨z, hz, z0, z1⟩ := lit_cell [-1, 3000, 3001] (-1) 3001 (hnew.only ho_uu (by omega)) (by decide) (k := k') (by simp; omega)
            have hO4 := (hO3.trans (Only.of_below (hall _))).trans ho_uu
            have hS4 := (hS.below (hall _) hS.lt).only ho_uu (by omega)
            have hres4 := (hres.below (hall _) hres.lt).only ho_uu (by omega)
            have HON4 := Lib.hid (own_only (own_below HON.out (hall _)) ho_uu (by omega))
            clear hnew hall ho_uu hsz_uu hrd_v
            (try clear hS_c0); (try clear hS_f0)
            (try clear hS_c1); (try clear hS_f1)
            (try clear hS_c2); (try clear hS_f2)
            (try clear hS_lt)
            (try clear hres_c0); (try clear hres_f0)
            (try clear hres_c1); (try clear hres_f1)
            (try clear hres_c2); (try clear hres_f2)
            (try clear hres_lt)
            (try clear hS4_c0); (try clear hS4_f0)
            (try clear hS4_c1); (try clear hS4_f1)
            (try clear hS4_c2); (try clear hS4_f2)
            (try clear hS4_lt)
            have hS4_lt := hS4.lt; (try simp only [World.size_alloc] at hS4_lt)
            have hS4_c0 := hS4.cell 0; have hS4_f0 := hS4.frozen 0
            have hS4_c1 := hS4.cell 1; have hS4_f1 := hS4.frozen 1
            have hS4_c2 := hS4.cell 2; have hS4_f2 := hS4.frozen 2
            simp only [List.getElem?_toArray, List.getElem?_cons_zero, List.getElem?_cons_succ] at hS4_c0 hS4_c1 hS4_c2
            (try clear hres4_c0); (try clear hres4_f0)
            (try clear hres4_c1); (try clear hres4_f1)
            (try clear hres4_c2); (try clear hres4_f2)
            (try clear hres4_lt)
            have hres4_lt := hres4.lt; (try simp only [World.size_alloc] at hres4_lt)
            have hres4_c0 := hres4.cell 0; have hres4_f0 := hres4.frozen 0
            have hres4_c1 := hres4.cell 1; have hres4_f1 := hres4.frozen 1
            have hres4_c2 := hres4.cell 2; have hres4_f2 := hres4.frozen 2
            simp only [List.getElem?_toArray, List.getElem?_cons_zero, List.getElem?_cons_succ] at hres4_c0 hres4_c1 hres4_c2
            go_wp2
            refine ⟨rfl, ?_⟩
            apply Exists.intro
            apply And.intro
            · simp [results, Try.results35, go_sem, hres4_c0, hres4_c1, hres4_c2, hS4_c0, hS4_c1, hS4_c2, hres4_lt, hS4_lt]; exact rfl
            · exact ⟨_, _, _, rfl, ⟨_, _, xs, rfl, rfl, hx12, own_but HON4.out (X := fun k' => k' = gs ∨ k' = w.heap.size) (by repeat (first | with_reducible exact But.refl _ _ | refine But.setCell ?_ (.inl (by first | exact .inl rfl | exact .inr rfl)) _)) HNE.out⟩, Rd.more (K := K + 4 + 50 * k + 1 + 1) (by repeat (first | with_reducible exact hrd_uu | refine Rd.setCell ?_ (by first | (show g < gs; omega) | (show g < w.heap.size; omega)) _)) (by omega), (by repeat (first | with_reducible exact hO4 | refine Only.setCell ?_ (.inr (by first | (show w.heap.size ≤ gs; omega) | exact Nat.le_refl _)) _))⟩
          · have g2 : (v == 1) = false := by simpa using h1
            go_wp2
            refine ⟨rfl, ?_⟩
            apply Exists.intro
            apply And.intro
            · simp [results, Try.results35, go_sem, hres_c0, hres_c1, hres_c2, hS_c0, hS_c1, hS_c2, hres_lt, hS_lt]; exact rfl
            · exact ⟨_, _, _, rfl, ⟨_, _, xs, rfl, rfl, hx12, own_but HON.out (X := fun k' => k' = gs ∨ k' = w.heap.size) (by repeat (first | with_reducible exact But.refl _ _ | refine But.setCell ?_ (.inl (by first | exact .inl rfl | exact .inr rfl)) _)) HNE.out⟩, Rd.more (K := K + 4 + 50 * k + 1) (by repeat (first | with_reducible exact hrd_v | refine Rd.setCell ?_ (by first | (show g < gs; omega) | (show g < w.heap.size; omega)) _)) (by omega), (by repeat (first | with_reducible exact hO3 | refine Only.setCell ?_ (.inr (by first | (show w.heap.size ≤ gs; omega) | exact Nat.le_refl _)) _))⟩
end Go.Proofs.Ytilokgloocbbnaa
