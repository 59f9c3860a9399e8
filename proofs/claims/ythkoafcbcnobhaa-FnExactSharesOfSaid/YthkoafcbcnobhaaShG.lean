/-
  SharesOf, both: where the arguments are taken, where they are not.
  Conditions: as each theorem states them.
-/
import Derived.Test.YthkoafcbcnobhaaShF
namespace Go.Proofs.Ythkoafcbcnobhaa
open Go.RowKit
set_option linter.unusedVariables false
set_option linter.unusedSimpArgs false

def ShGood (T : TypeId) (L : List Int) (n : Nat) (w : World) (e : Ending) (w' : World) : Prop := ∃ A' c', e = .returned (.tuple #[.slice A' n c', .bool true]) ∧ n ≤ c' ∧ c' ≤ maxLen ∧ w'.ownsRow w.heap.size T 1 (.slice A' n c') n (L.map (Value.int .i64)) ∧ Below w.heap.size w w'
def ShBad (T : TypeId) (w : World) (e : Ending) (w' : World) : Prop := ∃ A' c', e = .returned (.tuple #[.slice A' 0 c', .bool false]) ∧ 0 ≤ c' ∧ c' ≤ maxLen ∧ w'.ownsRow w.heap.size T 1 (.slice A' 0 c') 0 (([] : List Int).map (Value.int .i64)) ∧ Below w.heap.size w w'
theorem ShPost.good {T : TypeId} {xs : List Dm} {bud : Int} {w w' : World} {e : Ending} {n : Nat} (hn : xs.length = n) (h : shIn xs bud) (hp : ShPost T xs bud w e w') : ShGood T (shL xs bud) n w e w' := by
  obtain ⟨v, rfl, ho, hb⟩ := hp
  rw [shL_len h, hn] at ho
  rw [show shK xs bud = true from decide_eq_true h]
  obtain ⟨A, c, rfl, h1, h2, -⟩ := own_shape ho
  exact ⟨A, c, rfl, h1, h2, ho, hb⟩
theorem ShPost.bad {T : TypeId} {xs : List Dm} {bud : Int} {w w' : World} {e : Ending} (h : ¬ shIn xs bud) (hp : ShPost T xs bud w e w') : ShBad T w e w' := by
  obtain ⟨v, rfl, ho, hb⟩ := hp
  rw [show shL xs bud = [] from if_neg h] at ho
  rw [show shK xs bud = false from decide_eq_false h]
  obtain ⟨A, c, rfl, h1, h2, -⟩ := own_shape ho
  exact ⟨A, c, rfl, h1, h2, ho, hb⟩
theorem ish_good (A : Option Addr) (n c : Nat) (xs : List Dm) (bud : Int) (w : World) (h : Dms w w.heap.size A n xs) (hn : n ≤ 1099511627776) (hs : shIn xs bud) :
    Calls Try.prog 25 #[.slice A n c, .int .i64 bud] w (ShGood 3 (shL xs bud) n w) := (ishares_any A n c xs bud w h hn).mono fun _ _ hp => ShPost.good h.len hs hp
theorem ish_bad (A : Option Addr) (n c : Nat) (xs : List Dm) (bud : Int) (w : World) (h : Dms w w.heap.size A n xs) (hn : n ≤ 1099511627776) (hs : ¬ shIn xs bud) :
    Calls Try.prog 25 #[.slice A n c, .int .i64 bud] w (ShBad 3 w) := (ishares_any A n c xs bud w h hn).mono fun _ _ hp => ShPost.bad hs hp
theorem ssh_good (A : Option Addr) (n c : Nat) (xs : List Dm) (bud : Int) (w : World) (h : Dms w w.heap.size A n xs) (hn : n ≤ 1099511627776) (hs : shIn xs bud) :
    Calls Try.prog 26 #[.slice A n c, .int .i64 bud] w (ShGood 3 (shL xs bud) n w) := (sshares_any A n c xs bud w h hn).mono fun _ _ hp => ShPost.good h.len hs hp
theorem ssh_bad (A : Option Addr) (n c : Nat) (xs : List Dm) (bud : Int) (w : World) (h : Dms w w.heap.size A n xs) (hn : n ≤ 1099511627776) (hs : ¬ shIn xs bud) :
    Calls Try.prog 26 #[.slice A n c, .int .i64 bud] w (ShBad 3 w) := (sshares_any A n c xs bud w h hn).mono fun _ _ hp => ShPost.bad hs hp
theorem shIn_rep {xs : List Dm} {bud : Int} {d : Dm} (h : shIn xs bud) (hd : xs[0]? = some d) : shIn (List.replicate 6 d) bud :=
  ⟨⟨by simp, fun x hx => by rw [List.mem_replicate] at hx; rw [hx.2]; exact lOk_at h.1 hd⟩, h.2⟩
end Go.Proofs.Ythkoafcbcnobhaa
