/-
  A region that draws its order, by what holds of each slot: one obligation an operation, whatever the order.
  Conditions: no guards; each slot written once; an operation's edges lead to earlier ones.
-/
import Derived.WalkKit
import Derived.RegionTactic
namespace Go.Proofs.YthbkmnladaneaaaGreatDoor
open Go.RowKit
set_option linter.unusedVariables false
set_option linter.unusedSimpArgs false

section
variable {P : Program} {Q : Exit → Act → World → Prop} {md : Region.Mode}

/-- The frame a with the value x k in the slot of operation k. -/
def fill (x : Nat → Value) : List Oper → Nat → Act → Act
  | [], _, a => a
  | o :: rest, k, a => fill x rest (k + 1) (a.put o.dst (x k))

/-- No slot is written twice. -/
def apartDst : List Oper → Bool
  | [] => true
  | o :: rest => (match o.dst with | none => true | some d => rest.all fun p => p.dst != some d) && apartDst rest
/-- No guards; edges that bind lead back. -/
def plainOps (md : Region.Mode) : Nat → List Oper → Bool
  | _, [] => true
  | k, o :: rest => o.guard.isNone && o.after.all (fun e => !Region.binds md e || decide (e.on < k)) && plainOps md (k + 1) rest

theorem put_put (a : Act) (d : Option Tmp) (u v : Value) : (a.put d u).put d v = a.put d v := by
  cases d with
  | none => rfl
  | some d => simp [Act.put]

theorem fill_out {x : Nat → Value} {d : Option Tmp} {v : Value} : ∀ (l : List Oper) (k : Nat) (a : Act), (∀ e, d = some e → ∀ o ∈ l, o.dst ≠ some e) → (fill x l k a).put d v = fill x l k (a.put d v)
  | [], k, a, h => rfl
  | o :: l, k, a, h => by
    simp only [fill]
    rw [fill_out l (k + 1) _ (fun e he o ho => h e he o (List.mem_cons_of_mem _ ho))]
    congr 1
    refine Act.put_comm a _ _ fun e he hd => ?_
    exact h e hd o (List.mem_cons_self ..) he
theorem fill_congr {x y : Nat → Value} : ∀ (l : List Oper) (k : Nat) (a : Act), (∀ j, k ≤ j → x j = y j) → fill x l k a = fill y l k a
  | [], k, a, h => rfl
  | o :: l, k, a, h => by
    simp only [fill]
    rw [h k (Nat.le_refl _)]
    exact fill_congr l (k + 1) _ fun j hj => h j (by omega)

/-- x, but v at i. -/
def upd (x : Nat → Value) (i : Nat) (v : Value) : Nat → Value := fun j => if j = i then v else x j

theorem fill_put {x : Nat → Value} {v : Value} : ∀ (l : List Oper) (k i : Nat) (o : Oper) (a : Act), apartDst l = true → l[i]? = some o →
    (fill x l k a).put o.dst v = fill (upd x (k + i) v) l k a
  | [], k, i, o, a, _, ho => by simp at ho
  | p :: l, k, 0, o, a, hd, ho => by
    simp at ho
    subst ho
    simp only [fill]
    rw [fill_out l (k + 1) _ ?_]
    · rw [put_put]
      have : upd x (k + 0) v k = v := by simp [upd]
      rw [this]
      refine fill_congr l (k + 1) _ fun j hj => ?_
      simp [upd]
      omega
    · intro e he o' ho'
      simp only [apartDst, he, Bool.and_eq_true, List.all_eq_true] at hd
      simpa using hd.1 o' ho'
  | p :: l, k, i + 1, o, a, hd, ho => by
    simp only [fill]
    have hd' : apartDst l = true := by simp only [apartDst, Bool.and_eq_true] at hd; exact hd.2
    rw [fill_put l (k + 1) i o _ hd' (by simpa using ho)]
    have h1 : upd x (k + (i + 1)) v k = x k := by simp [upd]
    rw [h1, show k + 1 + i = k + (i + 1) by omega]

theorem fill_self (a : Act) : ∀ (l : List Oper) (k : Nat), ∃ x, fill x l k a = a
  | [], k => ⟨fun _ => undef, rfl⟩
  | o :: l, k => by
    obtain ⟨x, hx⟩ := fill_self a l (k + 1)
    cases hd : o.dst with
    | none => exact ⟨x, by simp only [fill, hd]; exact hx⟩
    | some d =>
      by_cases hlt : d < a.tmps.size
      · refine ⟨upd x k a.tmps[d], ?_⟩
        simp only [fill, hd]
        have e : a.put (some d) (upd x k a.tmps[d] k) = a := by
          have h1 : a.tmps.setIfInBounds d a.tmps[d] = a.tmps := by
            apply Array.ext_getElem?
            intro i
            rw [Array.getElem?_setIfInBounds]
            split
            · rename_i h
              subst h
              simp [hlt]
            · rfl
          have h2 : upd x k a.tmps[d] k = a.tmps[d] := by simp [upd]
          rw [h2]
          simp only [Act.put, h1]
        rw [e]
        rw [fill_congr (y := x) l (k + 1) a (fun j hj => by simp [upd]; omega)]
        exact hx
      · refine ⟨x, ?_⟩
        simp only [fill, hd]
        have e : a.put (some d) (x k) = a := by
          simp only [Act.put]
          rw [Array.setIfInBounds_eq_of_size_le (Nat.le_of_not_lt hlt)]
        rw [e]
        exact hx

/-- The obligations, one an operation. -/
def stepsFrom (S : Nat → Oper → Prop) : Nat → List Oper → Prop
  | _, [] => True
  | k, o :: rest => S k o ∧ stepsFrom S (k + 1) rest
theorem stepsFrom_at {S : Nat → Oper → Prop} : ∀ (l : List Oper) (k i : Nat) (o : Oper), stepsFrom S k l → l[i]? = some o → S (k + i) o
  | [], k, i, o, _, ho => by simp at ho
  | p :: l, k, 0, o, h, ho => by simp at ho; subst ho; exact h.1
  | p :: l, k, i + 1, o, h, ho => by
    have := stepsFrom_at l (k + 1) i o h.2 (by simpa using ho)
    rwa [show k + 1 + i = k + (i + 1) by omega] at this
theorem plainOps_at : ∀ (l : List Oper) (k i : Nat) (o : Oper), plainOps md k l = true → l[i]? = some o → o.guard = none ∧ ∀ e ∈ o.after, Region.binds md e = true → e.on < k + i
  | [], k, i, o, _, ho => by simp at ho
  | p :: l, k, 0, o, h, ho => by
    simp at ho; subst ho
    simp only [plainOps, Bool.and_eq_true, Array.all_eq_true', Option.isNone_iff_eq_none] at h
    refine ⟨h.1.1, fun e he hb => ?_⟩
    have := h.1.2 e he
    simpa [hb] using this
  | p :: l, k, i + 1, o, h, ho => by
    simp only [plainOps, Bool.and_eq_true] at h
    have := plainOps_at l (k + 1) i o h.2 (by simpa using ho)
    rwa [show k + 1 + i = k + (i + 1) by omega] at this

/-- A goal that no tactic lays open by itself: 'refine ⟨?_⟩' does. -/
structure Held (p : Prop) : Prop where
  out : p
/-- What is owed at operation i. -/
def Owed (P : Program) (Q : Exit → Act → World → Prop) (md : Region.Mode) (l : List Oper) (a0 : Act) (C : Nat → World → Prop) (R : World → World → Prop) (I : Nat → Value → World → Prop) (i : Nat) (o : Oper) : Prop :=
  ∀ (n : Nat) (x : Nat → Value) (w : World), n < l.length → C n w → (∀ e ∈ o.after.toList, Region.binds md e = true → I e.on (x e.on) w) →
    Held (o.wp P (fill x l 0 a0) w (fun a' w' => ∃ v, a' = (fill x l 0 a0).put o.dst v ∧ R w w' ∧ C (n + 1) w' ∧ I i v w') Q)

theorem wpAny_inv {l : List Oper} {a0 : Act} {C : Nat → World → Prop} {R : World → World → Prop} {I : Nat → Value → World → Prop} (hap : apartDst l = true) (hpl : plainOps md 0 l = true)
    (hmono : ∀ j v w w', R w w' → I j v w → I j v w') (hstep : stepsFrom (Owed P Q md l a0 C R I) 0 l)
    (hend : ∀ x w, C l.length w → (∀ i, i < l.length → I i (x i) w) → Q .normal (fill x l 0 a0) w) :
    ∀ (fuel n : Nat) (listed : Array Bool) (x : Nat → Value) (w : World), n + fuel = l.length → listed.size = l.length → listed.toList.count false = fuel → C n w →
      (∀ j, j < l.length → listed.getD j true = true → I j (x j) w) → wpAny P md l.toArray Q fuel listed (fill x l 0 a0) w := by
  intro fuel
  induction fuel with
  | zero =>
    intro n listed x w hn hs hc hC hI
    have hall : ∀ j, j < l.length → listed.getD j true = true := by
      intro j hj
      have hne : false ∉ listed.toList := List.count_eq_zero.1 hc
      have hj' : j < listed.size := by omega
      cases hb : listed[j]
      · exact absurd (hb ▸ by simp) hne
      · simp [hj', hb]
    have hr : Region.ready md l.toArray listed = [] := by
      apply List.eq_nil_iff_forall_not_mem.2
      intro j hj
      obtain ⟨h0, o, ho, _⟩ := mem_ready.1 hj
      have hlt : j < l.length := by
        have := (List.getElem?_eq_some_iff.1 (by simpa using ho)).1
        exact this
      rw [hall j hlt] at h0
      cases h0
    have hn' : n = l.length := by omega
    subst hn'
    exact ⟨hr, hend x w hC fun i hi => hI i hi (hall i hi)⟩
  | succ fuel ih =>
    intro n listed x w hn hs hc hC hI
    refine ⟨fun hr => ?_, fun i hi => ?_⟩
    · exfalso
      have hex : ∃ j, j < l.length ∧ listed.getD j true = false := by
        have hm : false ∈ listed.toList := List.count_pos_iff.1 (by omega)
        obtain ⟨j, hj, hb⟩ := List.mem_iff_getElem.1 hm
        have hj' : j < listed.size := by simpa using hj
        refine ⟨j, by omega, ?_⟩
        simp [hj'] at hb ⊢
        exact hb
      have hmin : ∃ j, (j < l.length ∧ listed.getD j true = false) ∧ ∀ k, k < j → listed.getD k true = true := by
        obtain ⟨j, hj⟩ := hex
        induction j using Nat.strongRecOn with
        | ind j ihj =>
          by_cases hk : ∃ k, k < j ∧ listed.getD k true = false
          · obtain ⟨k, hkj, hkf⟩ := hk
            exact ihj k hkj ⟨by omega, hkf⟩
          · refine ⟨j, hj, fun k hkj => ?_⟩
            cases hb : listed.getD k true
            · exact absurd ⟨k, hkj, hb⟩ hk
            · rfl
      obtain ⟨j, ⟨hjl, hjf⟩, hbef⟩ := hmin
      have hjo : l[j]? = some l[j] := List.getElem?_eq_getElem hjl
      have hp := plainOps_at l 0 j _ hpl hjo
      have : j ∈ Region.ready md l.toArray listed := by
        refine mem_ready.2 ⟨hjf, l[j], by simp, fun e he hb => ?_⟩
        have hlt := hp.2 e he hb
        have h1 := hbef e.on (by omega)
        have h2 : e.on < listed.size := by omega
        simp [h2] at h1 ⊢
        exact h1
      rw [hr] at this
      cases this
    · obtain ⟨h0, o, ho, hall⟩ := mem_ready.1 hi
      have ho' : l[i]? = some o := by simpa using ho
      have hil : i < l.length := (List.getElem?_eq_some_iff.1 ho').1
      have hp := plainOps_at l 0 i o hpl ho'
      have hw : Region.wanted o (yielded l.toArray (fill x l 0 a0).tmps) = true := by
        unfold Region.wanted
        rw [hp.1]
      have hst := stepsFrom_at l 0 i o hstep ho'
      rw [Nat.zero_add] at hst
      have hgo := hst n x w (by omega) hC fun e he hb => by
        have h1 := hall e (by simpa using he) hb
        have h2 : e.on < listed.size := by
          rcases Nat.lt_or_ge e.on listed.size with h | h
          · exact h
          · simp [Array.getElem?_eq_none h] at h1
        exact hI e.on (by omega) (by simp [h2] at h1 ⊢; exact h1)
      unfold wpOp
      rw [ho]
      simp only [hw, if_true]
      refine Or.inl (Oper.wp_mono ?_ hgo.out)
      rintro a' w' ⟨v, rfl, hR, hC', hv⟩
      rw [fill_put l 0 i o a0 hap ho', Nat.zero_add]
      have h0' : listed.toList[i]'(by simp; omega) = false := by
        have h2 : i < listed.size := by omega
        simp [h2] at h0 ⊢
        exact h0
      refine ih (n + 1) _ _ w' (by omega) (by simpa using hs) ?_ hC' ?_
      · rw [Array.toList_setIfInBounds, List.count_set (by simp; omega)]
        simp only [h0']
        rw [if_pos (by rfl), if_neg (by decide)]
        omega
      · intro j hj hlj
        by_cases hji : j = i
        · subst hji; simpa [upd] using hv
        · have : upd x i v j = x j := by simp [upd, hji]
          rw [this]
          refine hmono _ _ _ _ hR (hI j hj ?_)
          rw [getD_set_ne true (Ne.symm hji)] at hlj
          exact hlj

/-- **A region that draws its order**: from what is owed at each operation. -/
theorem wp_region_inv {id : Nat} {l : List Oper} {a0 : Act} {w : World} (C : Nat → World → Prop) (R : World → World → Prop) (I : Nat → Value → World → Prop) (hm : P.follows .mixedOrders = true)
    (hap : apartDst l = true) (hpl : plainOps .any 0 l = true) (hC : C 0 w.drew) (hmono : ∀ j v w w', R w w' → I j v w → I j v w') (hstep : stepsFrom (Owed P Q .any l a0 C R I) 0 l)
    (hend : ∀ x w, C l.length w → (∀ i, i < l.length → I i (x i) w) → Held (Q .normal (fill x l 0 a0) w)) : (Code.region id l.toArray true).wp P Q a0 w := by
  obtain ⟨x, hx⟩ := fill_self a0 l 0
  refine wp_region_any hm ?_
  have := wpAny_inv (P := P) (Q := Q) (md := .any) hap hpl hmono hstep (fun x w h1 h2 => (hend x w h1 h2).out) l.length 0 (Array.replicate l.length false) x w.drew (by omega) (by simp) (by simp) hC (fun j hj h => by simp [hj] at h)
  rw [hx] at this
  simpa using this
/-- Operation d waits for operation i. -/
def laterB (md : Region.Mode) (l : List Oper) (d i : Nat) : Bool := match l[d]? with | none => true | some o => o.after.any fun e => Region.binds md e && e.on == i
/-- All that spend what operation j made (ds j) are i itself, or wait for i. -/
def okDep (md : Region.Mode) (l : List Oper) (ds : Nat → List Nat) (i j : Nat) : Bool := (ds j).all fun d => d == i || laterB md l d i
/-- The same, where operations may spend what operation j made (those in 'ds j'): behind them nothing is known of that. -/
def OwedU (P : Program) (Q : Exit → Act → World → Prop) (md : Region.Mode) (l : List Oper) (a0 : Act) (ds : Nat → List Nat) (Z : World → Prop) (dz : List Nat) (C : Nat → World → Prop) (R : Nat → World → World → Prop) (I : Nat → Value → World → Prop) (i : Nat) (o : Oper) : Prop :=
  ∀ (n : Nat) (x : Nat → Value) (w : World), n < l.length → C n w → (∀ e ∈ o.after.toList, Region.binds md e = true → okDep md l ds i e.on = true → I e.on (x e.on) w) → ((dz.all fun d => d == i || laterB md l d i) = true → Z w) →
    Held (o.wp P (fill x l 0 a0) w (fun a' w' => ∃ v, a' = (fill x l 0 a0).put o.dst v ∧ R i w w' ∧ C (n + 1) w' ∧ I i v w') Q)

theorem wpAny_use {l : List Oper} {a0 : Act} {ds wt : Nat → List Nat} {Z : World → Prop} {dz : List Nat} {C : Nat → World → Prop} {R : Nat → World → World → Prop} {I : Nat → Value → World → Prop} (hap : apartDst l = true) (hpl : plainOps md 0 l = true)
    (hwt : ((List.range l.length).all fun j => (wt j).all fun i => laterB md l j i) = true) (hmono : ∀ i j v w w', i ≠ j → i ∉ ds j → i ∉ wt j → R i w w' → I j v w → I j v w') (hmz : ∀ i w w', i ∉ dz → R i w w' → Z w → Z w') (hstep : stepsFrom (OwedU P Q md l a0 ds Z dz C R I) 0 l)
    (hend : ∀ x w, C l.length w → (∀ i, i < l.length → ds i = [] → I i (x i) w) → Q .normal (fill x l 0 a0) w) :
    ∀ (fuel n : Nat) (listed : Array Bool) (x : Nat → Value) (w : World), n + fuel = l.length → listed.size = l.length → listed.toList.count false = fuel → C n w →
      (∀ j, j < l.length → listed.getD j true = true → (∀ d ∈ ds j, listed.getD d false = false) → I j (x j) w) → (∀ (d : Nat) (o : Oper), l[d]? = some o → listed.getD d false = true → ∀ e ∈ o.after, Region.binds md e = true → listed.getD e.on false = true) → ((∀ d ∈ dz, listed.getD d false = false) → Z w) → wpAny P md l.toArray Q fuel listed (fill x l 0 a0) w := by
  intro fuel
  induction fuel with
  | zero =>
    intro n listed x w hn hs hc hC hI hcl hZ
    have hall : ∀ j, j < l.length → listed.getD j true = true := by
      intro j hj
      have hne : false ∉ listed.toList := List.count_eq_zero.1 hc
      have hj' : j < listed.size := by omega
      cases hb : listed[j]
      · exact absurd (hb ▸ by simp) hne
      · simp [hj', hb]
    have hr : Region.ready md l.toArray listed = [] := by
      apply List.eq_nil_iff_forall_not_mem.2
      intro j hj
      obtain ⟨h0, o, ho, _⟩ := mem_ready.1 hj
      have hlt : j < l.length := by
        have := (List.getElem?_eq_some_iff.1 (by simpa using ho)).1
        exact this
      rw [hall j hlt] at h0
      cases h0
    have hn' : n = l.length := by omega
    subst hn'
    exact ⟨hr, hend x w hC fun i hi hn => hI i hi (hall i hi) (by rw [hn]; simp)⟩
  | succ fuel ih =>
    intro n listed x w hn hs hc hC hI hcl hZ
    refine ⟨fun hr => ?_, fun i hi => ?_⟩
    · exfalso
      have hex : ∃ j, j < l.length ∧ listed.getD j true = false := by
        have hm : false ∈ listed.toList := List.count_pos_iff.1 (by omega)
        obtain ⟨j, hj, hb⟩ := List.mem_iff_getElem.1 hm
        have hj' : j < listed.size := by simpa using hj
        refine ⟨j, by omega, ?_⟩
        simp [hj'] at hb ⊢
        exact hb
      have hmin : ∃ j, (j < l.length ∧ listed.getD j true = false) ∧ ∀ k, k < j → listed.getD k true = true := by
        obtain ⟨j, hj⟩ := hex
        induction j using Nat.strongRecOn with
        | ind j ihj =>
          by_cases hk : ∃ k, k < j ∧ listed.getD k true = false
          · obtain ⟨k, hkj, hkf⟩ := hk
            exact ihj k hkj ⟨by omega, hkf⟩
          · refine ⟨j, hj, fun k hkj => ?_⟩
            cases hb : listed.getD k true
            · exact absurd ⟨k, hkj, hb⟩ hk
            · rfl
      obtain ⟨j, ⟨hjl, hjf⟩, hbef⟩ := hmin
      have hjo : l[j]? = some l[j] := List.getElem?_eq_getElem hjl
      have hp := plainOps_at l 0 j _ hpl hjo
      have : j ∈ Region.ready md l.toArray listed := by
        refine mem_ready.2 ⟨hjf, l[j], by simp, fun e he hb => ?_⟩
        have hlt := hp.2 e he hb
        have h1 := hbef e.on (by omega)
        have h2 : e.on < listed.size := by omega
        simp [h2] at h1 ⊢
        exact h1
      rw [hr] at this
      cases this
    · obtain ⟨h0, o, ho, hall⟩ := mem_ready.1 hi
      have ho' : l[i]? = some o := by simpa using ho
      have hil : i < l.length := (List.getElem?_eq_some_iff.1 ho').1
      have hp := plainOps_at l 0 i o hpl ho'
      have hw : Region.wanted o (yielded l.toArray (fill x l 0 a0).tmps) = true := by
        unfold Region.wanted
        rw [hp.1]
      have hst := stepsFrom_at l 0 i o hstep ho'
      rw [Nat.zero_add] at hst
      have hi' : i < listed.size := by omega
      have hunl : ∀ d, (d == i || laterB md l d i) = true → listed.getD d false = false := by
        intro d hdu
        simp only [Bool.or_eq_true, beq_iff_eq] at hdu
        rcases hdu with rfl | hdu
        · simp [hi'] at h0 ⊢
          exact h0
        · cases hb' : listed.getD d false with
          | false => rfl
          | true =>
            exfalso
            have hdl : d < listed.size := by
              rcases Nat.lt_or_ge d listed.size with h | h
              · exact h
              · simp [Array.getElem?_eq_none h] at hb'
            have hdo : l[d]? = some (l[d]'(by omega)) := List.getElem?_eq_getElem (by omega)
            unfold laterB at hdu
            rw [hdo] at hdu
            simp only [Array.any_eq_true', Bool.and_eq_true, beq_iff_eq] at hdu
            obtain ⟨e', he', hb2, heq⟩ := hdu
            have := hcl d _ hdo hb' e' he' hb2
            rw [heq] at this
            simp [hi'] at h0 this
            rw [h0] at this
            cases this
      have hgo := hst n x w (by omega) hC (fun e he hb hu => by
        have h1 := hall e (by simpa using he) hb
        have h2 : e.on < listed.size := by
          rcases Nat.lt_or_ge e.on listed.size with h | h
          · exact h
          · simp [Array.getElem?_eq_none h] at h1
        refine hI e.on (by omega) (by simp [h2] at h1 ⊢; exact h1) fun d hd => hunl d (List.all_eq_true.1 hu d hd)) (fun hz => hZ fun d hd => hunl d (List.all_eq_true.1 hz d hd))
      unfold wpOp
      rw [ho]
      simp only [hw, if_true]
      refine Or.inl (Oper.wp_mono ?_ hgo.out)
      rintro a' w' ⟨v, rfl, hR, hC', hv⟩
      rw [fill_put l 0 i o a0 hap ho', Nat.zero_add]
      have h0' : listed.toList[i]'(by simp; omega) = false := by
        have h2 : i < listed.size := by omega
        simp [h2] at h0 ⊢
        exact h0
      refine ih (n + 1) _ _ w' (by omega) (by simpa using hs) ?_ hC' ?_ ?_ ?_
      · rw [Array.toList_setIfInBounds, List.count_set (by simp; omega)]
        simp only [h0']
        rw [if_pos (by rfl), if_neg (by decide)]
        omega
      · intro j hj hlj hun
        by_cases hji : j = i
        · subst hji; simpa [upd] using hv
        · have : upd x i v j = x j := by simp [upd, hji]
          rw [this]
          have hil' : i < listed.size := by omega
          have hset : (listed.setIfInBounds i true).getD i false = true := by simp [hil']
          have hne : i ∉ ds j := by
            intro he
            have := hun i he
            rw [hset] at this
            cases this
          have hlj' : listed.getD j true = true := by
            rw [getD_set_ne true (Ne.symm hji)] at hlj
            exact hlj
          have hnw : i ∉ wt j := by
            intro he
            have h1 := List.all_eq_true.1 hwt j (List.mem_range.2 hj)
            have h2 := List.all_eq_true.1 h1 i he
            have hjo : l[j]? = some l[j] := List.getElem?_eq_getElem hj
            unfold laterB at h2
            rw [hjo] at h2
            simp only [Array.any_eq_true', Bool.and_eq_true, beq_iff_eq] at h2
            obtain ⟨e', he', hb2, heq⟩ := h2
            have hjs : j < listed.size := by omega
            have h3 := hcl j _ hjo (by simp [hjs] at hlj' ⊢; exact hlj') e' he' hb2
            rw [heq] at h3
            simp [hil'] at h0 h3
            rw [h0] at h3
            cases h3
          refine hmono _ _ _ _ _ (Ne.symm hji) hne hnw hR (hI j hj ?_ ?_)
          · rw [getD_set_ne true (Ne.symm hji)] at hlj
            exact hlj
          · intro d hd
            have h1 := hun d hd
            by_cases hdi : d = i
            · subst hdi
              exact absurd hd hne
            · rw [getD_set_ne false (Ne.symm hdi)] at h1
              exact h1
      · intro d o' hdo hd e he hb
        by_cases hdi : d = i
        · subst hdi
          rw [ho'] at hdo
          injection hdo with hdo
          subst hdo
          exact getD_set_true (hall e (by simpa using he) hb)
        · rw [getD_set_ne false (Ne.symm hdi)] at hd
          exact getD_set_true (hcl d o' hdo hd e he hb)
      · intro hun
        have hset : (listed.setIfInBounds i true).getD i false = true := by simp [hi']
        have hne : i ∉ dz := by
          intro he
          have := hun i he
          rw [hset] at this
          cases this
        refine hmz i w w' hne hR (hZ fun d hd => ?_)
        have h1 := hun d hd
        by_cases hdi : d = i
        · subst hdi
          exact absurd hd hne
        · rw [getD_set_ne false (Ne.symm hdi)] at h1
          exact h1

/-- **A region that draws its order**, where operations may spend what others made. -/
theorem wp_region_use {id : Nat} {l : List Oper} {a0 : Act} {w : World} (ds wt : Nat → List Nat) (Z : World → Prop) (dz : List Nat) (C : Nat → World → Prop) (R : Nat → World → World → Prop) (I : Nat → Value → World → Prop) (hm : P.follows .mixedOrders = true)
    (hap : apartDst l = true) (hpl : plainOps .any 0 l = true) (hC : C 0 w.drew) (hZ : Z w.drew) (hwt : ((List.range l.length).all fun j => (wt j).all fun i => laterB .any l j i) = true) (hmono : ∀ i j v w w', i ≠ j → i ∉ ds j → i ∉ wt j → R i w w' → I j v w → I j v w') (hmz : ∀ i w w', i ∉ dz → R i w w' → Z w → Z w') (hstep : stepsFrom (OwedU P Q .any l a0 ds Z dz C R I) 0 l)
    (hend : ∀ x w, C l.length w → (∀ i, i < l.length → ds i = [] → I i (x i) w) → Held (Q .normal (fill x l 0 a0) w)) : (Code.region id l.toArray true).wp P Q a0 w := by
  obtain ⟨x, hx⟩ := fill_self a0 l 0
  refine wp_region_any hm ?_
  have := wpAny_use (P := P) (Q := Q) (md := .any) hap hpl hwt hmono hmz hstep (fun x w h1 h2 => (hend x w h1 h2).out) l.length 0 (Array.replicate l.length false) x w.drew (by omega) (by simp) (by simp) hC (fun j hj h => by simp [hj] at h) (fun d o hd h => by
    exfalso
    have hlt := (List.getElem?_eq_some_iff.1 hd).1
    simp [hlt] at h) (fun _ => hZ)
  rw [hx] at this
  simpa using this
end
end Go.Proofs.YthbkmnladaneaaaGreatDoor
