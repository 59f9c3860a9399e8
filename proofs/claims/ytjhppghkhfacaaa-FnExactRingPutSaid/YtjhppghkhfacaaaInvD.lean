/-
  A region that draws its order: what a slot holds may speak of the slots that its operation waits for.
  Conditions: no guards; each slot written once; an operation's edges lead to earlier ones.
-/
import Derived.Test.YtjhppghkhfacaaaInv
namespace Go.Proofs.Ytjhppghkhfacaaa
open Go.RowKit
set_option linter.unusedVariables false
set_option linter.unusedSimpArgs false

section
variable {P : Program} {Q : Exit → Act → World → Prop} {md : Region.Mode}

/-- The same, where operations may spend what operation j made (those in 'ds j'): behind them nothing is known of that. -/
def OwedD (P : Program) (Q : Exit → Act → World → Prop) (md : Region.Mode) (l : List Oper) (a0 : Act) (ds : Nat → List Nat) (Z : World → Prop) (dz : List Nat) (C : Nat → World → Prop) (R : Nat → World → World → Prop) (I : Nat → (Nat → Value) → World → Prop) (i : Nat) (o : Oper) : Prop :=
  ∀ (n : Nat) (x : Nat → Value) (w : World), n < l.length → C n w → (∀ e ∈ o.after.toList, Region.binds md e = true → okDep md l ds i e.on = true → I e.on x w) → ((dz.all fun d => d == i || laterB md l d i) = true → Z w) →
    Held (o.wp P (fill x l 0 a0) w (fun a' w' => ∃ v, a' = (fill x l 0 a0).put o.dst v ∧ R i w w' ∧ C (n + 1) w' ∧ I i (upd x i v) w') Q)

theorem wpAny_dep {l : List Oper} {a0 : Act} {ds wt : Nat → List Nat} {Z : World → Prop} {dz : List Nat} {C : Nat → World → Prop} {R : Nat → World → World → Prop} {I : Nat → (Nat → Value) → World → Prop} (hap : apartDst l = true) (hpl : plainOps md 0 l = true)
    (hwt : ((List.range l.length).all fun j => (wt j).all fun i => laterB md l j i) = true) (hloc : ∀ (i j : Nat) (x : Nat → Value) (v : Value) (w : World), i ≠ j → laterB md l j i = false → I j x w → I j (upd x i v) w) (hmono : ∀ i j x w w', i ≠ j → i ∉ ds j → i ∉ wt j → R i w w' → I j x w → I j x w') (hmz : ∀ i w w', i ∉ dz → R i w w' → Z w → Z w') (hstep : stepsFrom (OwedD P Q md l a0 ds Z dz C R I) 0 l)
    (hend : ∀ x w, C l.length w → (∀ i, i < l.length → ds i = [] → I i x w) → Q .normal (fill x l 0 a0) w) :
    ∀ (fuel n : Nat) (listed : Array Bool) (x : Nat → Value) (w : World), n + fuel = l.length → listed.size = l.length → listed.toList.count false = fuel → C n w →
      (∀ j, j < l.length → listed.getD j true = true → (∀ d ∈ ds j, listed.getD d false = false) → I j x w) → (∀ (d : Nat) (o : Oper), l[d]? = some o → listed.getD d false = true → ∀ e ∈ o.after, Region.binds md e = true → listed.getD e.on false = true) → ((∀ d ∈ dz, listed.getD d false = false) → Z w) → wpAny P md l.toArray Q fuel listed (fill x l 0 a0) w := by
  intro fuel
  induction fuel with
  | zero =>
    intro n listed x w hn hs hc hC hI hcl hZ
    have hall : ∀ j, j < l.length → listed.getD j true = true := by
      intro j hj
      have hne : false ∉ listed.toList := List.count_eq_zero.1 hc
      have hj' : j < listed.size := by omega
      cases hb : listed[j]
      · exact absurd (hb ▸ by simp) hne
      · simp [hj', hb]
    have hr : Region.ready md l.toArray listed = [] := by
      apply List.eq_nil_iff_forall_not_mem.2
      intro j hj
      obtain ⟨h0, o, ho, _⟩ := mem_ready.1 hj
      have hlt : j < l.length := by
        have := (List.getElem?_eq_some_iff.1 (by simpa using ho)).1
        exact this
      rw [hall j hlt] at h0
      cases h0
    have hn' : n = l.length := by omega
    subst hn'
    exact ⟨hr, hend x w hC fun i hi hn => hI i hi (hall i hi) (by rw [hn]; simp)⟩
  | succ fuel ih =>
    intro n listed x w hn hs hc hC hI hcl hZ
    refine ⟨fun hr => ?_, fun i hi => ?_⟩
    · exfalso
      have hex : ∃ j, j < l.length ∧ listed.getD j true = false := by
        have hm : false ∈ listed.toList := List.count_pos_iff.1 (by omega)
        obtain ⟨j, hj, hb⟩ := List.mem_iff_getElem.1 hm
        have hj' : j < listed.size := by simpa using hj
        refine ⟨j, by omega, ?_⟩
        simp [hj'] at hb ⊢
        exact hb
      have hmin : ∃ j, (j < l.length ∧ listed.getD j true = false) ∧ ∀ k, k < j → listed.getD k true = true := by
        obtain ⟨j, hj⟩ := hex
        induction j using Nat.strongRecOn with
        | ind j ihj =>
          by_cases hk : ∃ k, k < j ∧ listed.getD k true = false
          · obtain ⟨k, hkj, hkf⟩ := hk
            exact ihj k hkj ⟨by omega, hkf⟩
          · refine ⟨j, hj, fun k hkj => ?_⟩
            cases hb : listed.getD k true
            · exact absurd ⟨k, hkj, hb⟩ hk
            · rfl
      obtain ⟨j, ⟨hjl, hjf⟩, hbef⟩ := hmin
      have hjo : l[j]? = some l[j] := List.getElem?_eq_getElem hjl
      have hp := plainOps_at l 0 j _ hpl hjo
      have : j ∈ Region.ready md l.toArray listed := by
        refine mem_ready.2 ⟨hjf, l[j], by simp, fun e he hb => ?_⟩
        have hlt := hp.2 e he hb
        have h1 := hbef e.on (by omega)
        have h2 : e.on < listed.size := by omega
        simp [h2] at h1 ⊢
        exact h1
      rw [hr] at this
      cases this
    · obtain ⟨h0, o, ho, hall⟩ := mem_ready.1 hi
      have ho' : l[i]? = some o := by simpa using ho
      have hil : i < l.length := (List.getElem?_eq_some_iff.1 ho').1
      have hp := plainOps_at l 0 i o hpl ho'
      have hw : Region.wanted o (yielded l.toArray (fill x l 0 a0).tmps) = true := by
        unfold Region.wanted
        rw [hp.1]
      have hst := stepsFrom_at l 0 i o hstep ho'
      rw [Nat.zero_add] at hst
      have hi' : i < listed.size := by omega
      have hunl : ∀ d, (d == i || laterB md l d i) = true → listed.getD d false = false := by
        intro d hdu
        simp only [Bool.or_eq_true, beq_iff_eq] at hdu
        rcases hdu with rfl | hdu
        · simp [hi'] at h0 ⊢
          exact h0
        · cases hb' : listed.getD d false with
          | false => rfl
          | true =>
            exfalso
            have hdl : d < listed.size := by
              rcases Nat.lt_or_ge d listed.size with h | h
              · exact h
              · simp [Array.getElem?_eq_none h] at hb'
            have hdo : l[d]? = some (l[d]'(by omega)) := List.getElem?_eq_getElem (by omega)
            unfold laterB at hdu
            rw [hdo] at hdu
            simp only [Array.any_eq_true', Bool.and_eq_true, beq_iff_eq] at hdu
            obtain ⟨e', he', hb2, heq⟩ := hdu
            have := hcl d _ hdo hb' e' he' hb2
            rw [heq] at this
            simp [hi'] at h0 this
            rw [h0] at this
            cases this
      have hgo := hst n x w (by omega) hC (fun e he hb hu => by
        have h1 := hall e (by simpa using he) hb
        have h2 : e.on < listed.size := by
          rcases Nat.lt_or_ge e.on listed.size with h | h
          · exact h
          · simp [Array.getElem?_eq_none h] at h1
        refine hI e.on (by omega) (by simp [h2] at h1 ⊢; exact h1) fun d hd => hunl d (List.all_eq_true.1 hu d hd)) (fun hz => hZ fun d hd => hunl d (List.all_eq_true.1 hz d hd))
      unfold wpOp
      rw [ho]
      simp only [hw, if_true]
      refine Or.inl (Oper.wp_mono ?_ hgo.out)
      rintro a' w' ⟨v, rfl, hR, hC', hv⟩
      rw [fill_put l 0 i o a0 hap ho', Nat.zero_add]
      have h0' : listed.toList[i]'(by simp; omega) = false := by
        have h2 : i < listed.size := by omega
        simp [h2] at h0 ⊢
        exact h0
      refine ih (n + 1) _ _ w' (by omega) (by simpa using hs) ?_ hC' ?_ ?_ ?_
      · rw [Array.toList_setIfInBounds, List.count_set (by simp; omega)]
        simp only [h0']
        rw [if_pos (by rfl), if_neg (by decide)]
        omega
      · intro j hj hlj hun
        by_cases hji : j = i
        · subst hji; exact hv
        · have hil' : i < listed.size := by omega
          have hset : (listed.setIfInBounds i true).getD i false = true := by simp [hil']
          have hne : i ∉ ds j := by
            intro he
            have := hun i he
            rw [hset] at this
            cases this
          have hlj' : listed.getD j true = true := by
            rw [getD_set_ne true (Ne.symm hji)] at hlj
            exact hlj
          have hnw : i ∉ wt j := by
            intro he
            have h1 := List.all_eq_true.1 hwt j (List.mem_range.2 hj)
            have h2 := List.all_eq_true.1 h1 i he
            have hjo : l[j]? = some l[j] := List.getElem?_eq_getElem hj
            unfold laterB at h2
            rw [hjo] at h2
            simp only [Array.any_eq_true', Bool.and_eq_true, beq_iff_eq] at h2
            obtain ⟨e', he', hb2, heq⟩ := h2
            have hjs : j < listed.size := by omega
            have h3 := hcl j _ hjo (by simp [hjs] at hlj' ⊢; exact hlj') e' he' hb2
            rw [heq] at h3
            simp [hil'] at h0 h3
            rw [h0] at h3
            cases h3
          have hnl : laterB md l j i = false := by
            cases hlb : laterB md l j i with
            | false => rfl
            | true =>
              exfalso
              have hjo : l[j]? = some l[j] := List.getElem?_eq_getElem hj
              unfold laterB at hlb
              rw [hjo] at hlb
              simp only [Array.any_eq_true', Bool.and_eq_true, beq_iff_eq] at hlb
              obtain ⟨e', he', hb2, heq⟩ := hlb
              have hjs : j < listed.size := by omega
              have h3 := hcl j _ hjo (by simp [hjs] at hlj' ⊢; exact hlj') e' he' hb2
              rw [heq] at h3
              simp [hil'] at h0 h3
              rw [h0] at h3
              cases h3
          refine hloc _ _ _ _ _ (Ne.symm hji) hnl (hmono _ _ _ _ _ (Ne.symm hji) hne hnw hR (hI j hj ?_ ?_))
          · rw [getD_set_ne true (Ne.symm hji)] at hlj
            exact hlj
          · intro d hd
            have h1 := hun d hd
            by_cases hdi : d = i
            · subst hdi
              exact absurd hd hne
            · rw [getD_set_ne false (Ne.symm hdi)] at h1
              exact h1
      · intro d o' hdo hd e he hb
        by_cases hdi : d = i
        · subst hdi
          rw [ho'] at hdo
          injection hdo with hdo
          subst hdo
          exact getD_set_true (hall e (by simpa using he) hb)
        · rw [getD_set_ne false (Ne.symm hdi)] at hd
          exact getD_set_true (hcl d o' hdo hd e he hb)
      · intro hun
        have hset : (listed.setIfInBounds i true).getD i false = true := by simp [hi']
        have hne : i ∉ dz := by
          intro he
          have := hun i he
          rw [hset] at this
          cases this
        refine hmz i w w' hne hR (hZ fun d hd => ?_)
        have h1 := hun d hd
        by_cases hdi : d = i
        · subst hdi
          exact absurd hd hne
        · rw [getD_set_ne false (Ne.symm hdi)] at h1
          exact h1

/-- **A region that draws its order**, where operations may spend what others made. -/
theorem wp_region_dep {id : Nat} {l : List Oper} {a0 : Act} {w : World} (ds wt : Nat → List Nat) (Z : World → Prop) (dz : List Nat) (C : Nat → World → Prop) (R : Nat → World → World → Prop) (I : Nat → (Nat → Value) → World → Prop) (hm : P.follows .mixedOrders = true)
    (hap : apartDst l = true) (hpl : plainOps .any 0 l = true) (hC : C 0 w.drew) (hZ : Z w.drew) (hwt : ((List.range l.length).all fun j => (wt j).all fun i => laterB .any l j i) = true) (hloc : ∀ (i j : Nat) (x : Nat → Value) (v : Value) (w : World), i ≠ j → laterB .any l j i = false → I j x w → I j (upd x i v) w) (hmono : ∀ i j x w w', i ≠ j → i ∉ ds j → i ∉ wt j → R i w w' → I j x w → I j x w') (hmz : ∀ i w w', i ∉ dz → R i w w' → Z w → Z w') (hstep : stepsFrom (OwedD P Q .any l a0 ds Z dz C R I) 0 l)
    (hend : ∀ x w, C l.length w → (∀ i, i < l.length → ds i = [] → I i x w) → Held (Q .normal (fill x l 0 a0) w)) : (Code.region id l.toArray true).wp P Q a0 w := by
  obtain ⟨x, hx⟩ := fill_self a0 l 0
  refine wp_region_any hm ?_
  have := wpAny_dep (P := P) (Q := Q) (md := .any) hap hpl hwt hloc hmono hmz hstep (fun x w h1 h2 => (hend x w h1 h2).out) l.length 0 (Array.replicate l.length false) x w.drew (by omega) (by simp) (by simp) hC (fun j hj h => by simp [hj] at h) (fun d o hd h => by
    exfalso
    have hlt := (List.getElem?_eq_some_iff.1 hd).1
    simp [hlt] at h) (fun _ => hZ)
  rw [hx] at this
  simpa using this
end
end Go.Proofs.Ytjhppghkhfacaaa
