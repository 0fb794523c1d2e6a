import Derived.Test.YtdilmfnijkjiaaaDoorK64
import Derived.Lib.ItoaLen
set_option maxRecDepth 100000
set_option linter.unusedSimpArgs false
set_option linter.unusedVariables false
namespace Go.Proofs.YtdilmfnijkjiaaaDoor.K
open Go.RowKit
def txt (nm : ByteArray) (xs : List Int) : Nat → ByteArray
  | 0 => nm
  | k + 1 => txt nm xs k ++ (⟨#[32]⟩ ++ digitsOf (xs.getD k 0))
/-- The text of an instruction. -/
def textM (i : Ins) : ByteArray :=
  if (rowOf i.op).name = ⟨#[]⟩ ∨ (rowOf i.op).form = 0 then (rowOf i.op).name
  else if twoB (rowOf i.op).form = true then (if isNum i.a = true ∧ isNum i.b = true then txt (rowOf i.op).name [i.a, i.b] 2 else ⟨#[]⟩)
  else if isNum i.a = true then txt (rowOf i.op).name [i.a, i.b] 1 else ⟨#[]⟩
theorem str_nonempty {s : ByteArray} (h : ¬ s = ⟨#[]⟩) : s.toList.isEmpty = false := by
  rw [ByteArray.toList_eq]
  cases hl : s.data.toList with
  | nil => exact absurd (Go.WideShapes.bytes_inj (by rw [hl])) h
  | cons _ _ => rfl
theorem str_empty {s : ByteArray} (h : s = ⟨#[]⟩) : s.toList.isEmpty = true := by subst h; rw [ByteArray.toList_eq]; rfl
theorem all_succ {xs : List Int} {k : Nat} (h : ∀ j, j < k → isNum (xs.getD j 0) = true) (hk : isNum (xs.getD k 0) = true) : ∀ j, j < k + 1 → isNum (xs.getD j 0) = true := fun j hj => by
  rcases Nat.lt_or_ge j k with h1 | h1
  · exact h j h1
  · obtain rfl : j = k := by omega
    exact hk
theorem lit2 (w : World) (a b : Int) : ∀ k : Nat, k < 2 → (w.alloc (.cells #[.int .i64 a, .int .i64 b] 3)).cell? ⟨w.heap.size, k, none⟩ = some (.int .i64 ([a, b].getD k 0)) := fun k hk => by
  rw [cell_of_row _ _ _ _ _ _ (heap_alloc_new w _)]
  match k, hk with
  | 0, _ => rfl
  | 1, _ => rfl
theorem digits_size {n : Int} (h : isNum n = true) : (digitsOf n).size ≤ 21 := Lib.itoa_length_le n (isNum_bounds h).1 (isNum_bounds h).2
theorem txt_size (nm : ByteArray) (xs : List Int) : ∀ k : Nat, (∀ j, j < k → isNum (xs.getD j 0) = true) → (txt nm xs k).size ≤ nm.size + 22 * k
  | 0, _ => Nat.le_refl _
  | k + 1, h => by
    have h1 := txt_size nm xs k fun j hj => h j (by omega)
    have h2 := digits_size (h k (by omega))
    rw [txt, ByteArray.size_append, ByteArray.size_append]
    have h3 : (⟨#[32]⟩ : ByteArray).size = 1 := rfl
    omega
theorem names_small : ∀ n : Fin 38, (rws.getD n ⟨⟨#[]⟩, -1, -1, 0, 0, false⟩).name.size ≤ 10 := by decide
theorem name_small (op : Int) : (rowOf op).name.size ≤ 10 := by
  unfold rowOf
  split
  · rename_i h
    exact names_small ⟨op.toNat, by omega⟩
  · exact Nat.zero_le _
theorem twoB_iff (f : Int) : (f == 7 || f == 8) = twoB f := rfl

set_option maxHeartbeats 1000000 in
theorem text_a (op a b : Int) (nm : ByteArray) (form kd tk lv : Int) (vr : Bool) (w : World) (hE : Env w) (hr : rowOf op = ⟨nm, form, kd, tk, lv, vr⟩) (hn : nm = ⟨#[]⟩) :
    Calls Tryd.prog 39 #[.agg #[.int .i64 op, .int .i64 a, .int .i64 b]] w (StrPost w nm) := by
  have hne := str_empty hn
  clear hn
  have HR := Lib.hid (of_row op (w.alloc (.cells #[.int .i64 op, .int .i64 a, .int .i64 b] 27)))
  rw [hr] at HR
  clear hr
  have hB0 : Below w.heap.size w (w.alloc (.cells #[.int .i64 op, .int .i64 a, .int .i64 b] 27)) := below_alloc' (below_refl w)
  have HE := Lib.hid (hE.below hB0)
  have HB0 := Lib.hid hB0
  have R1 := Lib.hid (heap_alloc_new w (.cells #[.int .i64 op, .int .i64 a, .int .i64 b] 27))
  clear hE hB0
  go_enter Tryd.func39, Tryd.ntmps39
  go_wp2_with fail
  refine HR.out.mono ?_
  rintro e w1 ⟨rfl, hb⟩
  have HB1 := Lib.hid (below_then HB0.out hb)
  have HE1 := Lib.hid (HE.out.below hb)
  obtain ⟨i0, i1, i2⟩ := cells3' ((hb.block _ (Array.getElem?_eq_some_iff.1 R1.out).1).trans R1.out)
  have hz : w.heap.size < w1.heap.size := by have := hb.size; simp at this; omega
  clear hb HR HE HB0 R1
  go_wp2_with fail
  go_ret
  exact ⟨rfl, below_alloc' HB1.out⟩
set_option maxHeartbeats 1000000 in
theorem text_b (op a b : Int) (nm : ByteArray) (form kd tk lv : Int) (vr : Bool) (w : World) (hE : Env w) (hr : rowOf op = ⟨nm, form, kd, tk, lv, vr⟩) (hn : ¬ nm = ⟨#[]⟩) (hf : form = 0) :
    Calls Tryd.prog 39 #[.agg #[.int .i64 op, .int .i64 a, .int .i64 b]] w (StrPost w nm) := by
  subst hf
  have hne := str_nonempty hn
  clear hn
  have HR := Lib.hid (of_row op (w.alloc (.cells #[.int .i64 op, .int .i64 a, .int .i64 b] 27)))
  rw [hr] at HR
  clear hr
  have hB0 : Below w.heap.size w (w.alloc (.cells #[.int .i64 op, .int .i64 a, .int .i64 b] 27)) := below_alloc' (below_refl w)
  have HE := Lib.hid (hE.below hB0)
  have HB0 := Lib.hid hB0
  have R1 := Lib.hid (heap_alloc_new w (.cells #[.int .i64 op, .int .i64 a, .int .i64 b] 27))
  clear hE hB0
  go_enter Tryd.func39, Tryd.ntmps39
  go_wp2_with fail
  refine HR.out.mono ?_
  rintro e w1 ⟨rfl, hb⟩
  have HB1 := Lib.hid (below_then HB0.out hb)
  have HE1 := Lib.hid (HE.out.below hb)
  obtain ⟨i0, i1, i2⟩ := cells3' ((hb.block _ (Array.getElem?_eq_some_iff.1 R1.out).1).trans R1.out)
  have hz : w.heap.size < w1.heap.size := by have := hb.size; simp at this; omega
  clear hb HR HE HB0 R1
  go_wp2_with fail
  go_ret
  exact ⟨rfl, below_alloc' HB1.out⟩
set_option maxHeartbeats 1000000 in
theorem text_c (op a b : Int) (nm : ByteArray) (form kd tk lv : Int) (vr : Bool) (w : World) (hE : Env w) (hr : rowOf op = ⟨nm, form, kd, tk, lv, vr⟩) (hn : ¬ nm = ⟨#[]⟩) (hf : ¬ form = 0) (htwo : twoB form = false) :
    Calls Tryd.prog 39 #[.agg #[.int .i64 op, .int .i64 a, .int .i64 b]] w (StrPost w (if isNum a = true then txt nm [a, b] 1 else ⟨#[]⟩)) := by
  have hns : nm.size ≤ 10 := by have := name_small op; rw [hr] at this; exact this
  have HNS := Lib.hid hns
  clear hns
  obtain ⟨R, hR⟩ : ∃ R, (if isNum a = true then txt nm [a, b] 1 else (⟨#[]⟩ : ByteArray)) = R := ⟨_, rfl⟩
  rw [hR]
  have HRR := Lib.hid hR
  clear hR
  have hne := str_nonempty hn
  have hf0 : (form == 0) = false := beq_eq_false_iff_ne.2 hf
  clear hn hf
  have HR := Lib.hid (of_row op (w.alloc (.cells #[.int .i64 op, .int .i64 a, .int .i64 b] 27)))
  rw [hr] at HR
  clear hr
  have hB0 : Below w.heap.size w (w.alloc (.cells #[.int .i64 op, .int .i64 a, .int .i64 b] 27)) := below_alloc' (below_refl w)
  have HE := Lib.hid (hE.below hB0)
  have HB0 := Lib.hid hB0
  have R1 := Lib.hid (heap_alloc_new w (.cells #[.int .i64 op, .int .i64 a, .int .i64 b] 27))
  clear hE hB0
  go_enter Tryd.func39, Tryd.ntmps39
  go_wp2_with fail
  refine HR.out.mono ?_
  rintro e w1 ⟨rfl, hb⟩
  have HB1 := Lib.hid (below_then HB0.out hb)
  have HE1 := Lib.hid (HE.out.below hb)
  obtain ⟨i0, i1, i2⟩ := cells3' ((hb.block _ (Array.getElem?_eq_some_iff.1 R1.out).1).trans R1.out)
  have hz : w.heap.size < w1.heap.size := by have := hb.size; simp at this; omega
  clear hb HR HE HB0 R1
  have hB2 : Below w1.heap.size w1 ((w1.alloc (.cells #[.string nm, .int .i64 form, .int .i64 kd, .int .i64 tk, .int .i64 lv, .bool vr] 97)).alloc (.cells #[.int .i64 a, .int .i64 b] 3)) := below_alloc' (below_alloc' (below_refl w1))
  have hl2 := lit2 (w1.alloc (.cells #[.string nm, .int .i64 form, .int .i64 kd, .int .i64 tk, .int .i64 lv, .bool vr] 97)) a b
  rw [show (w1.alloc (.cells #[.string nm, .int .i64 form, .int .i64 kd, .int .i64 tk, .int .i64 lv, .bool vr] 97)).heap.size = w1.heap.size + 1 by simp] at hl2
  have HL2 := Lib.hid hl2
  have HB2 := Lib.hid (below_then HB1.out hB2)
  have HE2 := Lib.hid (HE1.out.below hB2)
  clear hl2 hB2
  go_wp2_with (first | (go_at_call 81; refine (two_calls _ _).mono ?_; rintro e w' ⟨rfl, rfl⟩; rw [twoB_iff, htwo]))
  skip
  generalize (w1.alloc (.cells #[.string nm, .int .i64 form, .int .i64 kd, .int .i64 tk, .int .i64 lv, .bool vr] 97)).alloc (.cells #[.int .i64 a, .int .i64 b] 3) = w3 at *
  have H0 : Hid (∀ j, j < 0 → isNum ([a, b].getD j 0) = true) := Lib.hid fun j h => absurd h (by omega)
  go_loopw [5, 36] (fun t u wr => ∃ k : Nat, k ≤ 1 ∧ t = .string (txt nm [a, b] k) ∧ u = .int .i64 k ∧ Hid (∀ j, j < k → isNum ([a, b].getD j 0) = true) ∧ Hid (Below w3.heap.size w3 wr)) (fun _ u _ => 1 - (intOf u).toNat)
  case atStart => exact ⟨0, Nat.zero_le _, rfl, rfl, H0, Lib.hid (below_refl w3)⟩
  case round =>
    obtain ⟨k, hk, rfl, rfl, HA, HBK⟩ := hrel
    by_cases hlt : k < 1
    · have hc : wr.cell? ⟨w1.heap.size + 1, k, none⟩ = some (.int .i64 ([a, b].getD k 0)) := cell_below HBK.out (HL2.out k (by omega))
      have HT : Hid (txt nm [a, b] (k + 1) = txt nm [a, b] k ++ (⟨#[32]⟩ ++ digitsOf ([a, b].getD k 0))) := Lib.hid rfl
      have HS := Lib.hid (all_succ HA.out : isNum ([a, b].getD k 0) = true → _)
      have HEk := Lib.hid (HE2.out.below HBK.out)
      have HSZ := Lib.hid (txt_size nm [a, b] k HA.out)
      have HN : Hid (isNum ([a, b].getD k 0) = false → isNum a = true → False) := Lib.hid fun h => fun h2 => by match k, hlt with | 0, _ => exact absurd (h.symm.trans h2) (by decide)
      have hki : (k : Int) < 1 := by omega
      generalize [a, b].getD k 0 = x at *
      obtain ⟨tn, htn⟩ : ∃ tn, txt nm [a, b] (k + 1) = tn := ⟨_, rfl⟩
      rw [htn] at HT
      have HTN := Lib.hid htn
      clear htn
      generalize txt nm [a, b] k = tc at *
      by_cases hx : isNum x = true
      · have hxx : (decide (-4611686018427387904 ≤ x) && decide (x ≤ 4611686018427387903)) = true := hx
        have HS2 := Lib.hid (HS.out hx)
        have hd1 : ¬ 9223372036854775807 < 1 + (digitsOf x).size := by have := digits_size hx; omega
        have hd2 : ¬ 9223372036854775807 < tc.size + (1 + (digitsOf x).size) := by have := digits_size hx; have h1 := HSZ.out; have h2 := HNS.out; omega
        have HD := Lib.hid (digits_calls x (isNum_bounds hx).1 (isNum_bounds hx).2 wr HEk.out)
        generalize digitsOf x = dx at *
        clear hx HS HN
        go_wp2_with (first | (go_at_call 82; refine (is_calls _ _).mono ?_; rintro e w' ⟨rfl, rfl⟩; rw [hxx]) | (go_at_call 83; refine HD.out.mono ?_; rintro e w4 ⟨rfl, hb4⟩))
        have HB4 := Lib.hid (below_then HBK.out hb4)
        clear hb4 HD HEk hc hxx HSZ
        go_wp2_with fail
        go_roundw
        case rel => exact ⟨k + 1, by omega, by rw [HTN.out, HT.out], by go_num, HS2, HB4⟩
        case measure => simp [intOf]; omega
      · have hx0 : isNum x = false := by simpa using hx
        have hxx : (decide (-4611686018427387904 ≤ x) && decide (x ≤ 4611686018427387903)) = false := hx0
        have HF := Lib.hid (HN.out hx0)
        have HBZ := Lib.hid (below_then HB2.out HBK.out)
        clear hx hx0 HS HN HEk
        go_wp2_with (first | (go_at_call 82; refine (is_calls _ _).mono ?_; rintro e w' ⟨rfl, rfl⟩; rw [hxx]))
        go_ret
        exact ⟨by rw [← HRR.out, if_neg HF.out]; rfl, HBZ.out⟩
    · obtain rfl : k = 1 := by omega
      have HF : Hid (isNum a = true) := Lib.hid (HA.out 0 (by omega))
      have HBZ := Lib.hid (below_then HB2.out HBK.out)
      clear hlt hk
      obtain ⟨tc, htc⟩ : ∃ tc, txt nm [a, b] 1 = tc := ⟨_, rfl⟩
      rw [htc]
      have HTC := Lib.hid htc
      clear htc
      go_wp2_with fail
      go_ret
      exact ⟨by rw [← HRR.out, if_pos HF.out, ← HTC.out]; rfl, HBZ.out⟩
set_option maxHeartbeats 1000000 in
theorem text_d (op a b : Int) (nm : ByteArray) (form kd tk lv : Int) (vr : Bool) (w : World) (hE : Env w) (hr : rowOf op = ⟨nm, form, kd, tk, lv, vr⟩) (hn : ¬ nm = ⟨#[]⟩) (hf : ¬ form = 0) (htwo : twoB form = true) :
    Calls Tryd.prog 39 #[.agg #[.int .i64 op, .int .i64 a, .int .i64 b]] w (StrPost w (if isNum a = true ∧ isNum b = true then txt nm [a, b] 2 else ⟨#[]⟩)) := by
  have hns : nm.size ≤ 10 := by have := name_small op; rw [hr] at this; exact this
  have HNS := Lib.hid hns
  clear hns
  obtain ⟨R, hR⟩ : ∃ R, (if isNum a = true ∧ isNum b = true then txt nm [a, b] 2 else (⟨#[]⟩ : ByteArray)) = R := ⟨_, rfl⟩
  rw [hR]
  have HRR := Lib.hid hR
  clear hR
  have hne := str_nonempty hn
  have hf0 : (form == 0) = false := beq_eq_false_iff_ne.2 hf
  clear hn hf
  have HR := Lib.hid (of_row op (w.alloc (.cells #[.int .i64 op, .int .i64 a, .int .i64 b] 27)))
  rw [hr] at HR
  clear hr
  have hB0 : Below w.heap.size w (w.alloc (.cells #[.int .i64 op, .int .i64 a, .int .i64 b] 27)) := below_alloc' (below_refl w)
  have HE := Lib.hid (hE.below hB0)
  have HB0 := Lib.hid hB0
  have R1 := Lib.hid (heap_alloc_new w (.cells #[.int .i64 op, .int .i64 a, .int .i64 b] 27))
  clear hE hB0
  go_enter Tryd.func39, Tryd.ntmps39
  go_wp2_with fail
  refine HR.out.mono ?_
  rintro e w1 ⟨rfl, hb⟩
  have HB1 := Lib.hid (below_then HB0.out hb)
  have HE1 := Lib.hid (HE.out.below hb)
  obtain ⟨i0, i1, i2⟩ := cells3' ((hb.block _ (Array.getElem?_eq_some_iff.1 R1.out).1).trans R1.out)
  have hz : w.heap.size < w1.heap.size := by have := hb.size; simp at this; omega
  clear hb HR HE HB0 R1
  have hB2 : Below w1.heap.size w1 ((w1.alloc (.cells #[.string nm, .int .i64 form, .int .i64 kd, .int .i64 tk, .int .i64 lv, .bool vr] 97)).alloc (.cells #[.int .i64 a, .int .i64 b] 3)) := below_alloc' (below_alloc' (below_refl w1))
  have hl2 := lit2 (w1.alloc (.cells #[.string nm, .int .i64 form, .int .i64 kd, .int .i64 tk, .int .i64 lv, .bool vr] 97)) a b
  rw [show (w1.alloc (.cells #[.string nm, .int .i64 form, .int .i64 kd, .int .i64 tk, .int .i64 lv, .bool vr] 97)).heap.size = w1.heap.size + 1 by simp] at hl2
  have HL2 := Lib.hid hl2
  have HB2 := Lib.hid (below_then HB1.out hB2)
  have HE2 := Lib.hid (HE1.out.below hB2)
  clear hl2 hB2
  go_wp2_with (first | (go_at_call 81; refine (two_calls _ _).mono ?_; rintro e w' ⟨rfl, rfl⟩; rw [twoB_iff, htwo]))
  skip
  generalize (w1.alloc (.cells #[.string nm, .int .i64 form, .int .i64 kd, .int .i64 tk, .int .i64 lv, .bool vr] 97)).alloc (.cells #[.int .i64 a, .int .i64 b] 3) = w3 at *
  have H0 : Hid (∀ j, j < 0 → isNum ([a, b].getD j 0) = true) := Lib.hid fun j h => absurd h (by omega)
  go_loopw [5, 36] (fun t u wr => ∃ k : Nat, k ≤ 2 ∧ t = .string (txt nm [a, b] k) ∧ u = .int .i64 k ∧ Hid (∀ j, j < k → isNum ([a, b].getD j 0) = true) ∧ Hid (Below w3.heap.size w3 wr)) (fun _ u _ => 2 - (intOf u).toNat)
  case atStart => exact ⟨0, Nat.zero_le _, rfl, rfl, H0, Lib.hid (below_refl w3)⟩
  case round =>
    obtain ⟨k, hk, rfl, rfl, HA, HBK⟩ := hrel
    by_cases hlt : k < 2
    · have hc : wr.cell? ⟨w1.heap.size + 1, k, none⟩ = some (.int .i64 ([a, b].getD k 0)) := cell_below HBK.out (HL2.out k (by omega))
      have HT : Hid (txt nm [a, b] (k + 1) = txt nm [a, b] k ++ (⟨#[32]⟩ ++ digitsOf ([a, b].getD k 0))) := Lib.hid rfl
      have HS := Lib.hid (all_succ HA.out : isNum ([a, b].getD k 0) = true → _)
      have HEk := Lib.hid (HE2.out.below HBK.out)
      have HSZ := Lib.hid (txt_size nm [a, b] k HA.out)
      have HN : Hid (isNum ([a, b].getD k 0) = false → isNum a = true ∧ isNum b = true → False) := Lib.hid fun h => fun h2 => by match k, hlt with | 0, _ => exact absurd (h.symm.trans h2.1) (by decide) | 1, _ => exact absurd (h.symm.trans h2.2) (by decide)
      have hki : (k : Int) < 2 := by omega
      generalize [a, b].getD k 0 = x at *
      obtain ⟨tn, htn⟩ : ∃ tn, txt nm [a, b] (k + 1) = tn := ⟨_, rfl⟩
      rw [htn] at HT
      have HTN := Lib.hid htn
      clear htn
      generalize txt nm [a, b] k = tc at *
      by_cases hx : isNum x = true
      · have hxx : (decide (-4611686018427387904 ≤ x) && decide (x ≤ 4611686018427387903)) = true := hx
        have HS2 := Lib.hid (HS.out hx)
        have hd1 : ¬ 9223372036854775807 < 1 + (digitsOf x).size := by have := digits_size hx; omega
        have hd2 : ¬ 9223372036854775807 < tc.size + (1 + (digitsOf x).size) := by have := digits_size hx; have h1 := HSZ.out; have h2 := HNS.out; omega
        have HD := Lib.hid (digits_calls x (isNum_bounds hx).1 (isNum_bounds hx).2 wr HEk.out)
        generalize digitsOf x = dx at *
        clear hx HS HN
        go_wp2_with (first | (go_at_call 82; refine (is_calls _ _).mono ?_; rintro e w' ⟨rfl, rfl⟩; rw [hxx]) | (go_at_call 83; refine HD.out.mono ?_; rintro e w4 ⟨rfl, hb4⟩))
        have HB4 := Lib.hid (below_then HBK.out hb4)
        clear hb4 HD HEk hc hxx HSZ
        go_wp2_with fail
        go_roundw
        case rel => exact ⟨k + 1, by omega, by rw [HTN.out, HT.out], by go_num, HS2, HB4⟩
        case measure => simp [intOf]; omega
      · have hx0 : isNum x = false := by simpa using hx
        have hxx : (decide (-4611686018427387904 ≤ x) && decide (x ≤ 4611686018427387903)) = false := hx0
        have HF := Lib.hid (HN.out hx0)
        have HBZ := Lib.hid (below_then HB2.out HBK.out)
        clear hx hx0 HS HN HEk
        go_wp2_with (first | (go_at_call 82; refine (is_calls _ _).mono ?_; rintro e w' ⟨rfl, rfl⟩; rw [hxx]))
        go_ret
        exact ⟨by rw [← HRR.out, if_neg HF.out]; rfl, HBZ.out⟩
    · obtain rfl : k = 2 := by omega
      have HF : Hid (isNum a = true ∧ isNum b = true) := Lib.hid ⟨HA.out 0 (by omega), HA.out 1 (by omega)⟩
      have HBZ := Lib.hid (below_then HB2.out HBK.out)
      clear hlt hk
      obtain ⟨tc, htc⟩ : ∃ tc, txt nm [a, b] 2 = tc := ⟨_, rfl⟩
      rw [htc]
      have HTC := Lib.hid htc
      clear htc
      go_wp2_with fail
      go_ret
      exact ⟨by rw [← HRR.out, if_pos HF.out, ← HTC.out]; rfl, HBZ.out⟩
theorem textI_calls (i : Ins) (w : World) (hE : Env w) : Calls Tryd.prog 39 #[.agg #[.int .i64 i.op, .int .i64 i.a, .int .i64 i.b]] w (StrPost w (textM i)) := by
  obtain ⟨op, a, b⟩ := i
  unfold textM
  dsimp only
  obtain ⟨r, hr⟩ : ∃ r, rowOf op = r := ⟨_, rfl⟩
  obtain ⟨nm, form, kd, tk, lv, vr⟩ := r
  rw [hr]
  dsimp only
  by_cases hn : nm = ⟨#[]⟩
  · rw [if_pos (.inl hn)]
    exact text_a op a b nm form kd tk lv vr w hE hr hn
  by_cases hf : form = 0
  · rw [if_pos (.inr hf)]
    exact text_b op a b nm form kd tk lv vr w hE hr hn hf
  rw [if_neg (not_or.2 ⟨hn, hf⟩)]
  cases ht : twoB form with
  | true =>
    rw [if_pos rfl]
    exact text_d op a b nm form kd tk lv vr w hE hr hn hf ht
  | false =>
    rw [if_neg (by decide)]
    exact text_c op a b nm form kd tk lv vr w hE hr hn hf ht
end Go.Proofs.YtdilmfnijkjiaaaDoor.K
