/-
  The tree of shares: the closure that says what fits, and 'first'.
  Conditions: as each theorem states them.
-/
import Derived.Test.YthkoafcbcnobhaaTreeW
namespace Go.Proofs.Ythkoafcbcnobhaa
open Go.RowKit
set_option linter.unusedVariables false
set_option linter.unusedSimpArgs false

set_option maxHeartbeats 4000000 in
theorem fits_any (gl gy gf : Nat) (A A' : Option Addr) (n c c' j : Nat) (xs : List Dm) (ls : List Int) (left : Int) (w : World) (h : Dms w w.heap.size A n xs) (h' : Ints w w.heap.size A' n ls) (hv : lOk xs) (hy : ysTo ls n) (hj : j < n)
    (hl : Bk w gl 26 #[.slice A n c]) (hyl : Bk w gy 23 #[.slice A' n c']) (hf : Bk w gf 3 #[.int .i64 left]) :
    Calls Try.prog 45 #[.int .i64 j, .pointer (some ⟨gl, 0, none⟩), .pointer (some ⟨gy, 0, none⟩), .pointer (some ⟨gf, 0, none⟩)] w fun e w' => e = .returned (.bool (decide (fit xs ls left j))) ∧ Below w.heap.size w w' := by
  have HL := Lib.hid h.len
  obtain ⟨b, off, rfl, hb, hcell⟩ := h.addr (by omega)
  obtain ⟨b', off', rfl, hb', hcell'⟩ := h'.at_ (by omega)
  obtain ⟨x, hx⟩ : ∃ x, xs[j]? = some x := ⟨_, List.getElem?_eq_getElem (by rw [HL.out]; exact hj)⟩
  obtain ⟨c0, c1, c2, c3⟩ := hcell j x hx
  have cl := hcell' j hj
  obtain ⟨l, hll⟩ : ∃ l, lX ls j = l := ⟨_, rfl⟩
  rw [show ls[j]?.getD 0 = l from hll] at cl
  have hyj := hy j hj
  rw [hll] at hyj
  obtain ⟨s, hs⟩ : ∃ s, stp x l = s := ⟨_, rfl⟩
  have key := Lib.hid (fit_iff (left := left) hx hll hs)
  have hdx := lOk_at hv hx
  have hsb := stp_bd hdx l
  rw [hs] at hsb
  (try clear hl_c0); (try clear hl_f0)
  (try clear hl_lt)
  have hl_lt := hl.lt; (try simp only [World.size_alloc] at hl_lt)
  have hl_c0 := hl.cell 0; have hl_f0 := hl.frozen 0
  simp only [List.getElem?_toArray, List.getElem?_cons_zero, List.getElem?_cons_succ] at hl_c0
  (try clear hyl_c0); (try clear hyl_f0)
  (try clear hyl_lt)
  have hyl_lt := hyl.lt; (try simp only [World.size_alloc] at hyl_lt)
  have hyl_c0 := hyl.cell 0; have hyl_f0 := hyl.frozen 0
  simp only [List.getElem?_toArray, List.getElem?_cons_zero, List.getElem?_cons_succ] at hyl_c0
  (try clear hf_c0); (try clear hf_f0)
  (try clear hf_lt)
  have hf_lt := hf.lt; (try simp only [World.size_alloc] at hf_lt)
  have hf_c0 := hf.cell 0; have hf_f0 := hf.frozen 0
  simp only [List.getElem?_toArray, List.getElem?_cons_zero, List.getElem?_cons_succ] at hf_c0
  have hfl := hf.lt
  clear hcell hcell' hx hll hv hy
  by_cases h2 : 2 ≤ l
  · have hv := fun w => om_top x l w h2
    have k2 := Lib.hid (show decide (fit xs ls left j) = false from decide_eq_false (by rw [key.out]; omega))
    go_enter Try.func45, Try.ntmps45
    go_wp2_with fail
    refine wp_region_cells [(gl, 0, .slice (some ⟨b, off, none⟩) n c), (gy, 0, .slice (some ⟨b', off', none⟩) n c'), (b, off + j * 4, .int .i64 x.we), (b, off + j * 4 + 1, .int .i64 x.lo), (b, off + j * 4 + 2, .int .i64 x.mi), (b, off + j * 4 + 3, .int .i64 x.hi), (b', off' + j, .int .i64 l)] (by kernel_rfl) (by kernel_rfl) ?_ ?_
    · simp only [List.forall_mem_cons]
      exact ⟨by go_simp, by go_simp, by go_simp, by go_simp, by go_simp, by go_simp, by go_simp, by simp⟩
    intro hcs
    simp only [List.forall_mem_cons] at hcs
    obtain ⟨dc0, dc1, dc2, dc3, dc4, dc5, dc6, -⟩ := hcs
    repeat (any_goals (first | go_big_quiet_step (first | (go_at_call 39; exact BW.calls (Nat.le_refl _) _ (hv _))) | quiet_step (first | (go_at_call 39; exact BW.calls (Nat.le_refl _) _ (hv _)))))
    refine wpQuiet_nil ?_
    intro _ hw'
    obtain ⟨xw, hw''⟩ := hw'
    subst hw''
    have hbw := xw.2
    clear dc0 dc1 dc2 dc3 dc4 dc5 dc6
    generalize xw.1 = ww at hbw ⊢
    clear xw
    obtain ⟨kw, fw⟩ := bcell hbw
    have sw := hbw.size
    go_wp2
    go_ret
    exact ⟨ret_bool k2.out.symm, hbw⟩
  · have hv := fun w => om_any x l w hdx hyj.1 (by omega)
    rw [hs] at hv
    have k2 := Lib.hid (show decide (fit xs ls left j) = decide (s ≤ left) from decide_eq_decide.2 (by rw [key.out]; omega))
    go_enter Try.func45, Try.ntmps45
    go_wp2_with fail
    refine wp_region_cells [(gl, 0, .slice (some ⟨b, off, none⟩) n c), (gy, 0, .slice (some ⟨b', off', none⟩) n c'), (b, off + j * 4, .int .i64 x.we), (b, off + j * 4 + 1, .int .i64 x.lo), (b, off + j * 4 + 2, .int .i64 x.mi), (b, off + j * 4 + 3, .int .i64 x.hi), (b', off' + j, .int .i64 l)] (by kernel_rfl) (by kernel_rfl) ?_ ?_
    · simp only [List.forall_mem_cons]
      exact ⟨by go_simp, by go_simp, by go_simp, by go_simp, by go_simp, by go_simp, by go_simp, by simp⟩
    intro hcs
    simp only [List.forall_mem_cons] at hcs
    obtain ⟨dc0, dc1, dc2, dc3, dc4, dc5, dc6, -⟩ := hcs
    repeat (any_goals (first | go_big_quiet_step (first | (go_at_call 39; exact BW.calls (Nat.le_refl _) _ (hv _))) | quiet_step (first | (go_at_call 39; exact BW.calls (Nat.le_refl _) _ (hv _)))))
    refine wpQuiet_nil ?_
    intro _ hw'
    obtain ⟨xw, hw''⟩ := hw'
    subst hw''
    have hbw := xw.2
    clear dc0 dc1 dc2 dc3 dc4 dc5 dc6
    generalize xw.1 = ww at hbw ⊢
    clear xw
    obtain ⟨kw, fw⟩ := bcell hbw
    have sw := hbw.size
    have hf0 : ww.cell? ⟨gf, 0, none⟩ = some (.int .i64 left) := (kw gf 0 hfl).trans hf_c0
    go_wp2
    go_ret
    exact ⟨ret_bool k2.out.symm, hbw⟩

/-- The closure's value. -/
def Fv (k gl gy gf : Nat) : Value := .func (.func k) #[] #[.pointer (some ⟨gl, 0, none⟩), .pointer (some ⟨gy, 0, none⟩), .pointer (some ⟨gf, 0, none⟩)]
theorem first_lt {f : Int → Bool} {g : Nat} {x : El} {l r : Tr} (h : 0 ≤ l.first f) : (Tr.node g x l r).first f = l.first f := by
  show (if _ then _ else _) = _
  rw [if_pos h]
theorem first_eq {f : Int → Bool} {g : Nat} {x : El} {l r : Tr} (h : ¬ 0 ≤ l.first f) (hf : f x.pl = true) : (Tr.node g x l r).first f = x.pl := by
  show (if _ then _ else _) = _
  rw [if_neg h, if_pos hf]
theorem first_gt {f : Int → Bool} {g : Nat} {x : El} {l r : Tr} (h : ¬ 0 ≤ l.first f) (hf : f x.pl = false) : (Tr.node g x l r).first f = r.first f := by
  show (if _ then _ else _) = _
  rw [if_neg h, if_neg (by simp [hf])]

set_option maxHeartbeats 4000000 in
theorem first_any (gl gy gf : Nat) (f : Int → Bool) (P : Int → Prop) (w0 : World)
    (hf : ∀ (w' : World) (pl : Int), Below w0.heap.size w0 w' → P pl → Calls Try.prog 45 #[.int .i64 pl, .pointer (some ⟨gl, 0, none⟩), .pointer (some ⟨gy, 0, none⟩), .pointer (some ⟨gf, 0, none⟩)] w' fun e w'' => e = .returned (.bool (f pl)) ∧ Below w'.heap.size w' w'') :
    ∀ (t : Tr) (w : World), Below w0.heap.size w0 w → TM 74 w0 t → (∀ e ∈ t.els, P e.pl) →
    Calls Try.prog 47 #[t.p, .func (.func 45) #[] #[.pointer (some ⟨gl, 0, none⟩), .pointer (some ⟨gy, 0, none⟩), .pointer (some ⟨gf, 0, none⟩)]] w fun e w' => e = .returned (.int .i64 (t.first f)) ∧ Below w.heap.size w w' := by
  have HF := Lib.hid hf
  clear hf
  intro t
  induction t with
  | nil =>
    intro w hb hm hp
    clear hb hm hp HF
    show Calls Try.prog 47 #[.pointer none, .func (.func 45) #[] #[.pointer (some ⟨gl, 0, none⟩), .pointer (some ⟨gy, 0, none⟩), .pointer (some ⟨gf, 0, none⟩)]] w _
    go_enter Try.func47, Try.ntmps47
    go_wp2
    go_ret
    exact ⟨rfl, (by repeat (first | exact Below.refl _ _ | assumption | refine Below.setCell ?_ (by first | omega | (simp; done) | (simp; omega)) _ | refine Below.alloc ?_ (by first | omega | (simp; done) | (simp; omega)) _ | refine Below.drew ?_ | refine Below.drewN' ?_ _ | refine Below.trans ?_ (Below.mono (by assumption) (by first | omega | (simp; done) | (simp; omega)))))⟩
  | node g x l r ihl ihr =>
    intro w hb hm hp
    obtain ⟨hx, hl, hr⟩ := hm
    have hpx : P x.pl := hp x (by simp [Tr.els])
    have HIL := Lib.hid (fun w hb => ihl w hb hl (fun e he => hp e (by simp [Tr.els, he])))
    have HIR := Lib.hid (fun w hb => ihr w hb hr (fun e he => hp e (by simp [Tr.els, he])))
    have hxl := hx.lt
    have c0 := (hb.cell (p := ⟨g, 0, none⟩) hxl).trans (hx.cell 0)
    have c3 := (hb.cell (p := ⟨g, 3, none⟩) hxl).trans (hx.cell 3)
    simp only [List.getElem?_toArray, List.getElem?_cons_zero, List.getElem?_cons_succ] at c0 c3
    have HX := Lib.hid hx
    have hs := hb.size
    have hf1 := fun w' hb => HF.out w' x.pl hb hpx
    clear hp hl hr ihl ihr hx
    show Calls Try.prog 47 #[.pointer (some ⟨g, 0, none⟩), .func (.func 45) #[] #[.pointer (some ⟨gl, 0, none⟩), .pointer (some ⟨gy, 0, none⟩), .pointer (some ⟨gf, 0, none⟩)]] w _
    by_cases h0 : 0 ≤ l.first f
    · have key := Lib.hid (first_lt (g := g) (x := x) (r := r) h0)
      have e0 : decide (0 ≤ l.first f) = true := by simpa using h0
      go_enter Try.func47, Try.ntmps47
      go_wp2_with (first | (go_at_call 47; refine (HIL.out _ hb).mono ?_; rintro e w1 ⟨rfl, hb1⟩))
      go_ret
      exact ⟨ret_int key.out.symm, hb1⟩
    · have e0 : decide (0 ≤ l.first f) = false := by simpa using h0
      cases hfx : f x.pl
      · have key := Lib.hid (first_gt (g := g) (x := x) (r := r) h0 hfx)
        rw [hfx] at hf1
        have HF1 := Lib.hid hf1
        clear hf1 hfx
        go_enter Try.func47, Try.ntmps47
        go_wp2_with (first | (go_at_call 47; first | (with_reducible refine (HIL.out _ hb).mono ?_; rintro e w1 ⟨rfl, hb1⟩; have hB1 := hb.trans (hb1.mono hs); have d0 := (hB1.cell (p := ⟨g, 0, none⟩) hxl).trans (HX.out.cell 0); simp only [List.getElem?_toArray, List.getElem?_cons_zero, List.getElem?_cons_succ] at d0) | (with_reducible refine (HIR.out _ hB2).mono ?_; rintro e w3 ⟨rfl, hb3⟩)) | (go_at_call 45; refine (HF1.out _ hB1).mono ?_; rintro e w2 ⟨rfl, hb2⟩; have hB2 := hB1.trans (hb2.mono hB1.size); have d4 := (hB2.cell (p := ⟨g, 4, none⟩) hxl).trans (HX.out.cell 4); simp only [List.getElem?_toArray, List.getElem?_cons_zero, List.getElem?_cons_succ] at d4))
        go_ret
        exact ⟨ret_int key.out.symm, (hb1.trans (hb2.mono hb1.size)).trans (hb3.mono (hb1.trans (hb2.mono hb1.size)).size)⟩
      · have key := Lib.hid (first_eq (g := g) (x := x) (r := r) h0 hfx)
        rw [hfx] at hf1
        have HF1 := Lib.hid hf1
        clear hf1 hfx
        go_enter Try.func47, Try.ntmps47
        go_wp2_with (first | (go_at_call 47; refine (HIL.out _ hb).mono ?_; rintro e w1 ⟨rfl, hb1⟩; have hB1 := hb.trans (hb1.mono hs); have d0 := (hB1.cell (p := ⟨g, 0, none⟩) hxl).trans (HX.out.cell 0); simp only [List.getElem?_toArray, List.getElem?_cons_zero, List.getElem?_cons_succ] at d0) | (go_at_call 45; refine (HF1.out _ hB1).mono ?_; rintro e w2 ⟨rfl, hb2⟩; have hB2 := hB1.trans (hb2.mono hB1.size); have d4 := (hB2.cell (p := ⟨g, 0, none⟩) hxl).trans (HX.out.cell 0); simp only [List.getElem?_toArray, List.getElem?_cons_zero, List.getElem?_cons_succ] at d4))
        go_ret
        exact ⟨ret_int key.out.symm, hb1.trans (hb2.mono hb1.size)⟩
end Go.Proofs.Ythkoafcbcnobhaa
