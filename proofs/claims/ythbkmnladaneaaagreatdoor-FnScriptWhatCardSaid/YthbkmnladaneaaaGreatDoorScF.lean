/-
  Scripts: a script, in the program.
  Conditions: the table of powers of ten holds what it held.
-/
import Derived.Test.YthbkmnladaneaaaGreatDoorScI
namespace Go.Proofs.YthbkmnladaneaaaGreatDoor
open Go.RowKit
set_option linter.unusedVariables false
set_option linter.unusedSimpArgs false
set_option maxRecDepth 100000

theorem bf_only {T e : TypeId} {B b g : Nat} {bs : List Value} {w w' : World} (h : Lib.IsBuilderF T e B b bs w) (ho : Only g w w') (hg : g < B) : Lib.IsBuilderF T e B b bs w' := by
  have one : ∀ p, Lib.BuilderAtF T e B b p bs w → Lib.BuilderAtF T e B b p bs w' := by
    rintro p ⟨hB, v, hb, ho2, hne⟩
    have hlt : b < w.heap.size := (Array.getElem?_eq_some_iff.1 hb).1
    refine ⟨hB, v, (ho.block b hlt (by omega)).trans hb, ⟨ho2.1, ?_⟩, hne⟩
    rcases ho2.2 with hn | ⟨k, cap, cur, fz, hv, hk, hc, rest⟩
    · exact .inl hn
    · exact .inr ⟨k, cap, cur, fz, hv, hk, (ho.block k (Array.getElem?_eq_some_iff.1 hc).1 (by omega)).trans hc, rest⟩
  rcases h with h | h
  · exact .inl (one _ h)
  · exact .inr (one _ h)
theorem MQ.kept {s : Sc} {g B b : Nat} {w w' : World} (h : MQ s g w) (hb : Below B w w') (ho : Lib.OthersKept 5 (some b) w w') (hgB : g < B) (hbk : ∃ cs fz, w.heap[b]? = some (Obj.cells cs 43 fz)) : MQ s g w' := by
  obtain ⟨A, c, h1, h2, h3, h4, h5⟩ := h
  have row : ∀ k o, 0 < s.xs.length → A = some ⟨k, o, none⟩ → w'.heap[k]? = w.heap[k]? := fun k o hn e => by
    obtain ⟨cs, fz, hk⟩ := h5 hn k o e
    obtain ⟨cs2, fz2, hk2⟩ := hbk
    rw [hk]
    refine ho k _ hk ?_ ?_
    · intro e2
      injection e2 with e2
      rw [e2, hk2] at hk
      injection hk with hk
      injection hk with _ hk _
      exact absurd hk (by decide)
    · intro c2 f2 e2
      injection e2 with _ e2 _
      exact absurd e2 (by decide)
  refine ⟨A, c, h1.below hb hgB, ⟨h2.1, fun hn => ?_⟩, h3, h4, fun hn k o e => ?_⟩
  · obtain ⟨k, o, e, hlt, hc⟩ := h2.2 hn
    refine ⟨k, o, e, ?_, fun j u hu => ?_⟩
    · have := hb.size; omega
    · rw [World.cell?_of_block (row k o hn e)]; exact hc j u hu
  · obtain ⟨cs, fz, hk⟩ := h5 hn k o e
    exact ⟨cs, fz, (row k o hn e).trans hk⟩
theorem bat_kind {T e : TypeId} {B b : Nat} {bs : List Value} {w : World} (h : Lib.IsBuilderF T e B b bs w) : ∃ cs fz, w.heap[b]? = some (Obj.cells cs T fz) := by
  rcases h with ⟨_, v, hb, _⟩ | ⟨_, v, hb, _⟩ <;> exact ⟨_, _, hb⟩
theorem TB.num {w : World} (h : TB w) : ∃ g0, Tryz.prog.globalNamed "internal/strconv.uint64pow10" = some g0 ∧ g0 < w.heap.size := by
  unfold TB Lib.TabIs World.var? at h
  cases hg : Tryz.prog.globalNamed "internal/strconv.uint64pow10" with
  | none => rw [hg] at h; cases h
  | some g =>
    rw [hg] at h
    simp only [Option.bind_some] at h
    refine ⟨g, rfl, ?_⟩
    cases hh : w.heap[g]? with
    | none => rw [hh] at h; cases h
    | some o => exact (Array.getElem?_eq_some_iff.1 hh).1
theorem TB.at_ {w w' : World} {g0 : Nat} (h : TB w) (hg : Tryz.prog.globalNamed "internal/strconv.uint64pow10" = some g0) (hk : w'.heap[g0]? = w.heap[g0]?) : TB w' := by
  unfold TB Lib.TabIs World.var? at h ⊢
  rw [hg] at h ⊢
  simp only [Option.bind_some] at h ⊢
  rw [hk]
  exact h
theorem bc_app (a b : List UInt8) : Lib.byteCells (a ++ b) = Lib.byteCells a ++ Lib.byteCells b := by simp [Lib.byteCells]
theorem sc_bc (o : List UInt8) : Lib.strCells ⟨o.toArray⟩ = Lib.byteCells o := by simp [Lib.strCells, Lib.byteCells]
theorem bc_step (p o : List UInt8) : Lib.byteCells p ++ Lib.strCells ⟨o.toArray⟩ ++ [Value.int .u8 10] = Lib.byteCells (p ++ (o ++ [10])) := by
  rw [sc_bc, bc_app, bc_app, List.append_assoc]
  rfl
theorem bc_len (p : List UInt8) : (Lib.byteCells p).length = p.length := by simp [Lib.byteCells]
theorem sz_mk (o : List UInt8) : (⟨o.toArray⟩ : ByteArray).size = o.length := by show o.toArray.size = _; simp
set_option maxHeartbeats 2000000 in
theorem iexec_any (t : ByteArray) (w : World) (ht : TB w) : Calls Tryz.prog 12 #[.string t] w (StrRet (execL t.data.toList) w) := by
  have hl := byte_len t
  by_cases hsz : t.size ≤ 500
  · obtain ⟨g0, hg0, hgl0⟩ := ht.num
    have HSP := Lib.hid (fun w => split_any t 10 w hsz)
    obtain ⟨ls, last, hs⟩ : ∃ ls last, splitL 10 t.data.toList = ls ++ [last] := ⟨_, _, (List.dropLast_concat_getLast (splitL_ne _ _)).symm⟩
    have HEX := Lib.hid (exec_end hsz hs)
    have hsl := splitL_len 10 t.data.toList
    have hmem : ∀ y, y ∈ ls → y.length ≤ 500 := fun y hy => by have := splitL_mem (c := 10) (l := t.data.toList) (x := y) (by rw [hs]; simp [hy]); omega
    rw [hs] at HSP hsl
    generalize hex : execL t.data.toList = ex at *
    obtain ⟨N, hN⟩ : ∃ N, ls.length = N := ⟨_, rfl⟩
    have hN1 : (ls ++ [last]).length = N + 1 := by simp [hN]
    rw [hN1] at HSP hsl
    have HLC := Lib.hid (fun (j : Nat) (y : List UInt8) (hy : ls[j]? = some y) => (show ((ls ++ [last]).map sV).toArray[j]? = some (.string ⟨y.toArray⟩) by rw [List.getElem?_toArray, List.getElem?_map, List.getElem?_append_left (List.getElem?_eq_some_iff.1 hy).1, hy]; rfl))
    generalize ((ls ++ [last]).map sV).toArray = L at *
    have HN := Lib.hid hN
    have hN500 : N ≤ 500 := by omega
    clear hex hs hN hN1
    have hM : MQ sc0 w.heap.size (w.alloc (.cells #[.int .i64 4, .int .i64 0, .slice none 0 0, .int .i64 0, .int .i64 0, .bool true] 38)) := ⟨none, 0, Bk.new _ _ _, ⟨rfl, fun h => absurd h (by decide)⟩, Nat.le_refl _, Nat.zero_le _, fun h => absurd h (by decide)⟩
    have hM3 := (hM.below ((Below.refl _ _).alloc (Nat.le_refl _) (.cells L 9))).below ((Below.refl _ _).alloc (Nat.le_refl _) (.cells #[.pointer none, .slice none 0 0] 43))
    have hL3 := (bk_new1 w (.cells #[.int .i64 4, .int .i64 0, .slice none 0 0, .int .i64 0, .int .i64 0, .bool true] 38) 9 L).alloc (.cells #[.pointer none, .slice none 0 0] 43)
    have hF3 : Lib.IsBuilderF 43 5 _ _ [] _ := Lib.IsBuilderF.of (Lib.fresh_isBuilder 43 5 ((w.alloc (.cells #[.int .i64 4, .int .i64 0, .slice none 0 0, .int .i64 0, .int .i64 0, .bool true] 38)).alloc (.cells L 9)))
    have hB3 : Below w.heap.size w (((w.alloc (.cells #[.int .i64 4, .int .i64 0, .slice none 0 0, .int .i64 0, .int .i64 0, .bool true] 38)).alloc (.cells L 9)).alloc (.cells #[.pointer none, .slice none 0 0] 43)) := (by repeat (first | exact Below.refl _ _ | assumption | refine Below.setCell ?_ (by first | omega | (simp; done) | (simp; omega)) _ | refine Below.alloc ?_ (by first | omega | (simp; done) | (simp; omega)) _ | refine Below.drew ?_ | refine Below.drewN' ?_ _ | refine Below.trans ?_ (Below.mono (by assumption) (by first | omega | (simp; done) | (simp; omega)))))
    have hT3 := ht.below hB3
    have hs3 : w.heap.size + 1 + 1 < (((w.alloc (.cells #[.int .i64 4, .int .i64 0, .slice none 0 0, .int .i64 0, .int .i64 0, .bool true] 38)).alloc (.cells L 9)).alloc (.cells #[.pointer none, .slice none 0 0] 43)).heap.size := by simp
    rw [size1, size1] at hF3
    have HM3 := Lib.hid hM3
    have HL3 := Lib.hid hL3
    have HF3 := Lib.hid hF3
    have HB3 := Lib.hid hB3
    have HT3 := Lib.hid hT3
    clear hM hM3 hL3 hF3 hB3 hT3 ht
    go_enter Tryz.func12, Tryz.ntmps12
    go_wp2_with fail
    refine (HSP.out _).mono ?_
    rintro e w1 ⟨rfl, rfl⟩
    go_wp2_with fail
    generalize (((w.alloc (.cells #[.int .i64 4, .int .i64 0, .slice none 0 0, .int .i64 0, .int .i64 0, .bool true] 38)).alloc (.cells L 9)).alloc (.cells #[.pointer none, .slice none 0 0] 43)) = W3 at *
    obtain ⟨g, hg⟩ : ∃ g, w.heap.size = g := ⟨_, rfl⟩
    have HG := Lib.hid hg
    have hg00 : g0 < g := by omega
    rw [hg] at hs3 HM3 HL3 HF3
    rw [hg]
    have HOUT := Lib.hid (fun (p : List UInt8) (W : World) (hb : Below w.heap.size w W) (he : ex = p) => (show StrRet ex w (.returned (.string ⟨p.toArray⟩)) W from ⟨by rw [he], hb⟩))
    generalize StrRet ex w = R at *
    go_loopw [23] (fun i wr => ∃ (j : Nat) (s : Sc) (p : List UInt8), j ≤ N ∧ i = .int .i64 j ∧ p.length ≤ 21 * j ∧ Hid (runS sc0 (ls.take j) = (s, p)) ∧ Hid (scOk s) ∧ Hid (MQ s g wr) ∧ Hid (TB wr) ∧ Hid (Lib.IsBuilderF 43 5 (g + 1 + 1) (g + 1 + 1) (Lib.byteCells p) wr) ∧ Hid (Bk wr (g + 1) 9 L) ∧ Hid (Below w.heap.size w wr) ∧ g + 1 + 1 < wr.heap.size) (fun i _ => N - (intOf i).toNat)
    case atStart => exact ⟨0, sc0, [], by omega, rfl, by simp, Lib.hid rfl, Lib.hid sc0_ok, HM3, HT3, HF3, HL3, HB3, hs3⟩
    case round =>
      obtain ⟨j, s, p, hj, rfl, hpl, hrun, hok, hmq, htb, hbf, hlr, hbw, hsr⟩ := hrel
      by_cases hlt : j < N
      · obtain ⟨y, hy⟩ : ∃ y, ls[j]? = some y := ⟨_, List.getElem?_eq_getElem (by rw [HN.out]; exact hlt)⟩
        have hcy := (hlr.out.cell j).trans (HLC.out j y hy)
        have hyl := hmem y (List.mem_of_getElem? hy)
        have hol := lineS_len s y
        have HLN := Lib.hid (iline_any s g (ByteArray.mk y.toArray) wr hmq.out htb.out hok.out (by show y.toArray.size ≤ 500; simpa using hyl))
        have hrun2 := Lib.hid (show runS sc0 (ls.take (j + 1)) = ((lineS s y).1, p ++ ((lineS s y).2 ++ [10])) by rw [List.take_add_one, hy, Option.toList_some, runS_snoc, hrun.out])
        have hok2 := Lib.hid (lineS_ok (l := y) hok.out)
        unfold MRet at HLN
        replace HLN : Hid (Calls Tryz.prog 22 #[.pointer (some ⟨g, 0, none⟩), .string ⟨y.toArray⟩] wr fun e w' => e = .returned (.string ⟨(lineS s y).2.toArray⟩) ∧ MQ (lineS s y).1 g w' ∧ Only g wr w') := HLN
        generalize lineS s y = r at *
        obtain ⟨s2, o2⟩ := r
        simp only at hol hrun2 hok2 HLN
        have HSL := Lib.hid hlr.out.lt
        clear hy hrun hok hmem
        go_wp2_with (first
          | (go_at_call 22; refine HLN.out.mono ?_; rintro e w5 ⟨rfl, hq5, ho5⟩; have hbf5 := bf_only hbf.out ho5 (by omega); have hsz5 := ho5.size)
          | (go_at_call 21; refine (Tryz.Builder_WriteString_k (g + 1 + 1) (g + 1 + 1) (Lib.byteCells p) ⟨o2.toArray⟩ w5 hbf5 (by rw [bc_len, sz_mk]; omega) (by omega)).mono ?_; rintro e w6 ⟨rfl, hb6, hB6, hO6⟩; have hsz6 := hB6.size)
          | (go_at_call 23; refine (Tryz.Builder_WriteByte_k (g + 1 + 1) (g + 1 + 1) _ 10 w6 (Or.inr hb6) (by rw [List.length_append, bc_len, Lib.strCells_length, sz_mk]; omega) (by omega)).mono ?_; rintro e w7 ⟨rfl, hb7, hB7, hO7⟩; have hsz7 := hB7.size))
        have hq6 := hq5.kept hB6 hO6 (by omega) (bat_kind hbf5)
        have hq7 := hq6.kept hB7 hO7 (by omega) (bat_kind (Or.inr hb6))
        have ht5 := hmq.out.tb htb.out ho5
        have ht6 := ht5.at_ hg0 (hB6.block g0 (by omega))
        have ht7 := ht6.at_ hg0 (hB7.block g0 (by omega))
        have hbf7 : Lib.IsBuilderF 43 5 (g + 1 + 1) (g + 1 + 1) (Lib.byteCells (p ++ (o2 ++ [10]))) w7 := by rw [← bc_step]; exact Or.inr hb7
        have hl7 := ((hlr.out.only ho5 (by omega)).below hB6 (by omega)).below hB7 (by omega)
        have hgw : w.heap.size = g := HG.out
        have hbw7 := ((hbw.out.trans (ho5.below (B := w.heap.size) (by omega) hbw.out.size)).trans (hB6.mono (by omega))).trans (hB7.mono (by omega))
        clear hgw
        go_roundw
        case rel => exact ⟨j + 1, s2, p ++ (o2 ++ [10]), by omega, by go_num, by simp; omega, hrun2, hok2, Lib.hid hq7, Lib.hid ht7, Lib.hid hbf7, Lib.hid hl7, Lib.hid hbw7, by omega⟩
        case measure => simp [intOf]; omega
      · have hjn : j = N := by omega
        have hexx := HEX.out
        rw [show ls.take j = ls from List.take_of_length_le (by rw [HN.out]; omega)] at hrun
        rw [hrun.out] at hexx
        simp only at hexx
        have HLO := Lib.hid (mlost_any s g wr hmq.out htb.out hok.out)
        have hll : (lostA s).length ≤ 12 := by
          have := dI_len7 s.lo
          simp [lostA, wLostB]; omega
        unfold StrRet at HLO
        generalize lostA s = lo at *
        have HE2 := Lib.hid (show ex = p ++ (lo ++ [10]) by rw [hexx, List.append_assoc])
        clear hjn hexx hrun hmem
        go_wp2_with (first
          | (go_at_call 24; refine HLO.out.mono ?_; rintro e w5 ⟨rfl, hb5⟩; have hbf5 := bf_only hbf.out (Only.of_below (g := g) hb5) (by omega); have hsz5 := hb5.size)
          | (go_at_call 21; refine (Tryz.Builder_WriteString_k (g + 1 + 1) (g + 1 + 1) (Lib.byteCells p) ⟨lo.toArray⟩ w5 hbf5 (by rw [bc_len, sz_mk]; omega) (by omega)).mono ?_; rintro e w6 ⟨rfl, hb6, hB6, hO6⟩; have hsz6 := hB6.size)
          | (go_at_call 23; refine (Tryz.Builder_WriteByte_k (g + 1 + 1) (g + 1 + 1) _ 10 w6 (Or.inr hb6) (by rw [List.length_append, bc_len, Lib.strCells_length, sz_mk]; omega) (by omega)).mono ?_; rintro e w7 ⟨rfl, hb7, hB7, hO7⟩; have hsz7 := hB7.size; have hbf7 : Lib.IsBuilderF 43 5 (g + 1 + 1) (g + 1 + 1) (Lib.byteCells (p ++ (lo ++ [10]))) w7 := by rw [← bc_step]; exact Or.inr hb7)
          | (go_at_call 25; refine (Tryz.Builder_String_any_k (g + 1 + 1) (g + 1 + 1) _ w7 hbf7 (by omega)).mono ?_; rintro e w8 ⟨rfl, -, hB8, -⟩))
        have hgw : w.heap.size = g := HG.out
        exact HOUT.out _ _ ((((hbw.out.trans (hb5.mono hbw.out.size)).trans (hB6.mono (by omega))).trans (hB7.mono (by omega))).trans (hB8.mono (by omega))) HE2.out
  · rw [exec_long hsz]
    go_enter Tryz.func12, Tryz.ntmps12
    go_wp2
    go_ret
    exact ⟨rfl, Below.refl _ _⟩
end Go.Proofs.YthbkmnladaneaaaGreatDoor
