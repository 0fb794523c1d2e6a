import Derived.Test.YtdilmfnijkjiaaaDoorK33
import Derived.Deep.RegionHeld3
import Derived.Deep.RegionWith
set_option maxRecDepth 100000
set_option linter.unusedSimpArgs false
set_option linter.unusedVariables false
namespace Go.Proofs.YtdilmfnijkjiaaaDoor.K
open Go.RowKit
/-- New of no types. -/
theorem new_nil (w : World) : Calls Tryd.prog 28 #[.slice none 0 0] w fun e w' => ∃ g, e = .returned (.tuple #[.pointer (some ⟨g, 0, none⟩), .int .i64 0]) ∧ w.heap.size ≤ g ∧ Tab w' g (allOf []) ∧ Below w.heap.size w w' := by
  refine (new_calls none 0 [] w (TySl.nil w) (by simp) (by simp)).mono ?_
  rintro e w1 ⟨hb, ⟨_, g, rfl, hg, hT⟩ | ⟨h, _⟩⟩
  · exact ⟨g, rfl, hg, hT, hb⟩
  · exact absurd (⟨by simp, by simp⟩ : tysOk []) h
/-- Step at two slots that were just laid. -/
theorem step_two (op a b : Int) (g : Nat) (o : Obj) (w1 : World) (hT : Tab w1 g (allOf [])) :
    Calls Tryd.prog 22 #[.agg #[.int .i64 op, .int .i64 0, .int .i64 0], .agg #[.pointer (some ⟨g, 0, none⟩), .slice none 0 0, .int .i64 0, .int .i64 0], .int .i64 0, .agg #[.slice none 0 0, .slice (some ⟨w1.heap.size + 1, 0, none⟩) 2 2]] ((w1.alloc o).alloc (.cells #[.int .i64 a, .int .i64 b] 3)) fun e w' =>
      ∃ A1 k1 A2 k2, e = .returned (.tuple #[.agg #[.slice A1 (twoM op a b).1.length k1, .slice A2 (twoM op a b).2.1.length k2], .int .i64 (twoM op a b).2.2]) ∧ IntSl w' A1 k1 (twoM op a b).1 ∧ IntSl w' A2 k2 (twoM op a b).2.1 ∧ Below w1.heap.size w1 w' ∧ Below ((w1.alloc o).alloc (.cells #[.int .i64 a, .int .i64 b] 3)).heap.size ((w1.alloc o).alloc (.cells #[.int .i64 a, .int .i64 b] 3)) w' := by
  have hL1 := lit_ints (w1.alloc o) [a, b] _ rfl 2 rfl (by omega)
  rw [show (w1.alloc o).heap.size = w1.heap.size + 1 by simp] at hL1
  have hBb : Below w1.heap.size w1 ((w1.alloc o).alloc (.cells #[.int .i64 a, .int .i64 b] 3)) := below_alloc' (below_alloc' (below_refl w1))
  have hp : partsOf (allOf []) 0 = [] := rfl
  refine (step_calls op 0 0 g none 0 0 0 (allOf []) [] 0 none 0 [] (some ⟨w1.heap.size + 1, 0, none⟩) 2 [a, b] _ (hT.below hBb) (FnSl.nil _) (by rw [hp]; decide) (by simp) (by simp) (IntSl.nil _) hL1).mono ?_
  rintro e w2 ⟨V1, V2, rfl, ho, hb2⟩
  obtain ⟨A1, k1, rfl, hs1⟩ := ho.l.sl
  obtain ⟨A2, k2, rfl, hs2⟩ := ho.s.sl
  exact ⟨A1, k1, A2, k2, rfl, hs1, hs2, below_then hBb hb2, hb2⟩
theorem eff_two (op : Int) (g : Nat) (w : World) (hT : Tab w g (allOf [])) : Calls Tryd.prog 26 #[.agg #[.int .i64 op, .int .i64 0, .int .i64 0], .agg #[.pointer (some ⟨g, 0, none⟩), .slice none 0 0, .int .i64 0, .int .i64 0]] w fun e w' => ∃ n : Int, e = .returned (.tuple #[.int .i64 (takesM op), .int .i64 n]) ∧ Below w.heap.size w w' := by
  have hp : partsOf (allOf []) 0 = [] := rfl
  refine (effect_calls op 0 0 g none 0 0 0 (allOf []) [] w hT (FnSl.nil _) (by rw [hp]; decide)).mono ?_
  rintro e w1 ⟨rfl, hb⟩
  exact ⟨_, rfl, hb⟩
theorem text_0 (A1 : Option Addr) (k1 : Nat) (A2 : Option Addr) (k2 : Nat) (w : World) (h1 : IntSl w A1 k1 []) (h2 : IntSl w A2 k2 [0]) : Calls Tryd.prog 29 #[.agg #[.slice A1 0 k1, .slice A2 1 k2]] w fun e w' => e = .returned (.string ⟨#[124, 32, 48]⟩) ∧ Below w.heap.size w w' := by
  have k := text_calls A1 k1 [] A2 k2 [0] w h1 h2 (by decide) (by decide) (by decide) (by decide)
  rw [show textOf [] [0] = ⟨#[124, 32, 48]⟩ by decide +kernel] at k
  exact k
theorem text_1 (A1 : Option Addr) (k1 : Nat) (A2 : Option Addr) (k2 : Nat) (w : World) (h1 : IntSl w A1 k1 []) (h2 : IntSl w A2 k2 [1]) : Calls Tryd.prog 29 #[.agg #[.slice A1 0 k1, .slice A2 1 k2]] w fun e w' => e = .returned (.string ⟨#[124, 32, 49]⟩) ∧ Below w.heap.size w w' := by
  have k := text_calls A1 k1 [] A2 k2 [1] w h1 h2 (by decide) (by decide) (by decide) (by decide)
  rw [show textOf [] [1] = ⟨#[124, 32, 49]⟩ by decide +kernel] at k
  exact k
set_option maxHeartbeats 4000000 in
theorem needs_8 (a b : Int) (w : World) : Calls Tryd.prog 5 #[.int .i64 8, .int .i64 a, .int .i64 b] w fun e w' => e = .returned (.bool true) ∧ Below w.heap.size w w' := by
  go_enter Tryd.func5, Tryd.ntmps5
  go_wp2_with fail
  refine (shown_calls w).mono ?_
  rintro e w0 ⟨rfl, hb0⟩
  have HB0 := Lib.hid hb0
  clear hb0
  go_wp2_with fail
  refine (new_nil w0).mono ?_
  rintro e w1 ⟨g, rfl, hg, hT, hb1⟩
  have HB1 := Lib.hid (below_then HB0.out hb1)
  have HT1 := Lib.hid hT
  clear HB0 hb1 hT hg
  go_wp2_with fail
  have b1 := heap2 w1 (.cells #[.pointer (some ⟨g, 0, none⟩), .slice none 0 0, .int .i64 0, .int .i64 0] 34) (.cells #[.int .i64 a, .int .i64 b] 3)
  refine (step_two 8 a b g _ w1 HT1.out).mono ?_
  rintro e w2 ⟨A1, k1, A2, k2, rfl, hs1, hs2, hb2, hb2'⟩
  have c0 : w2.cell? ⟨w1.heap.size, 0, none⟩ = some (.pointer (some ⟨g, 0, none⟩)) := cell_below hb2' (cell_of_row _ _ 0 _ _ _ b1.1)
  have c1 : w2.cell? ⟨w1.heap.size, 1, none⟩ = some (.slice none 0 0) := cell_below hb2' (cell_of_row _ _ 1 _ _ _ b1.1)
  have c2 : w2.cell? ⟨w1.heap.size, 2, none⟩ = some (.int .i64 0) := cell_below hb2' (cell_of_row _ _ 2 _ _ _ b1.1)
  have c3 : w2.cell? ⟨w1.heap.size, 3, none⟩ = some (.int .i64 0) := cell_below hb2' (cell_of_row _ _ 3 _ _ _ b1.1)
  have HT2 := Lib.hid (HT1.out.below hb2)
  have HB2 := Lib.hid (below_then HB1.out hb2)
  have HF := Lib.hid ((⟨rfl, two_num 8 a b (by decide)⟩ : takesM 8 = 2 ∧ _))
  have HS1 := Lib.hid hs1
  have HS2 := Lib.hid hs2
  clear b1 hs1 hs2 hb2 hb2' HB1 HT1
  generalize twoM 8 a b = r at *
  obtain ⟨r1, r2, v⟩ := r
  simp only at HS1 HS2 HF
  simp only
  have hbx := below_alloc' (o := .cells #[.slice A1 r1.length k1, .slice A2 r2.length k2] 30) (below_refl w2)
  have d0 := cell_below hbx c0
  have d1 := cell_below hbx c1
  have d2 := cell_below hbx c2
  have d3 := cell_below hbx c3
  have bb := heap_alloc_new w2 (.cells #[.slice A1 r1.length k1, .slice A2 r2.length k2] 30)
  have e0 : (w2.alloc (.cells #[.slice A1 r1.length k1, .slice A2 r2.length k2] 30)).cell? ⟨w2.heap.size, 0, none⟩ = some (.slice A1 r1.length k1) := cell_of_row _ _ 0 _ _ _ bb
  have e1 : (w2.alloc (.cells #[.slice A1 r1.length k1, .slice A2 r2.length k2] 30)).cell? ⟨w2.heap.size, 1, none⟩ = some (.slice A2 r2.length k2) := cell_of_row _ _ 1 _ _ _ bb
  have HBX := Lib.hid hbx
  clear bb hbx
  go_wp2_with fail
  refine (eff_two 8 g _ (HT2.out.below HBX.out)).mono ?_
  rintro e w3 ⟨n, rfl, hb3⟩
  have HB3 := Lib.hid (below_then HB2.out (below_then HBX.out hb3))
  have HS3 := Lib.hid ((HS1.out.below HBX.out).below hb3)
  have HS4 := Lib.hid ((HS2.out.below HBX.out).below hb3)
  have f0 := cell_below hb3 e0
  have f1 := cell_below hb3 e1
  clear hb3 HB2 HBX HS1 HS2 e0 e1 d0 d1 d2 d3 c0 c1 c2 c3 HT2
  generalize takesM 8 = t at *
  obtain ⟨ht, v', e, hv⟩ := HF.out
  cases e
  clear HF
  subst ht
  have HX := Lib.hid (text_0 A1 k1 A2 k2 w3 HS3.out HS4.out)
  by_cases ha : a = 0
  · subst ha
    by_cases hb : b = 0
    · subst hb
      have hv0 : v = 0 := hv.2 ⟨rfl, rfl⟩
      subst hv0
      clear hv
      go_wp2_with (go_at_call 29; refine HX.out.mono ?_; rintro e w4 ⟨rfl, hb4⟩)
      all_goals first
        | (go_ret; exact ⟨rfl, below_then HB3.out (by assumption)⟩)
        | (go_ret; refine ⟨?_, below_then HB3.out (by assumption)⟩; show Ending.returned (.bool (!(v == 0))) = _; rw [beq_eq_false_iff_ne.2 hv0]; rfl)
        | (exfalso; rename_i hx; exact hx (by simp [show (0 : Int) = 0 from rfl]))
    · have hv0 : ¬ v = 0 := fun h => hb (hv.1 h).2
      clear hv
      go_wp2_with (go_at_call 29; refine HX.out.mono ?_; rintro e w4 ⟨rfl, hb4⟩)
      all_goals first
        | (go_ret; exact ⟨rfl, below_then HB3.out (by assumption)⟩)
        | (go_ret; refine ⟨?_, below_then HB3.out (by assumption)⟩; show Ending.returned (.bool (!(v == 0))) = _; rw [beq_eq_false_iff_ne.2 hv0]; rfl)
        | (exfalso; rename_i hx; exact hx (by simp [beq_eq_false_iff_ne.2 hb, beq_eq_false_iff_ne.2 hv0]))
  · have hv0 : ¬ v = 0 := fun h => ha (hv.1 h).1
    clear hv
    go_wp2_with (go_at_call 29; refine HX.out.mono ?_; rintro e w4 ⟨rfl, hb4⟩)
    all_goals first
      | (go_ret; exact ⟨rfl, below_then HB3.out (by assumption)⟩)
      | (go_ret; refine ⟨?_, below_then HB3.out (by assumption)⟩; show Ending.returned (.bool (!(v == 0))) = _; rw [beq_eq_false_iff_ne.2 hv0]; rfl)
      | (exfalso; rename_i hx; exact hx (by simp [beq_eq_false_iff_ne.2 ha, beq_eq_false_iff_ne.2 hv0]))
set_option maxHeartbeats 4000000 in
theorem needs_9 (a b : Int) (w : World) : Calls Tryd.prog 5 #[.int .i64 9, .int .i64 a, .int .i64 b] w fun e w' => e = .returned (.bool true) ∧ Below w.heap.size w w' := by
  go_enter Tryd.func5, Tryd.ntmps5
  go_wp2_with fail
  refine (shown_calls w).mono ?_
  rintro e w0 ⟨rfl, hb0⟩
  have HB0 := Lib.hid hb0
  clear hb0
  go_wp2_with fail
  refine (new_nil w0).mono ?_
  rintro e w1 ⟨g, rfl, hg, hT, hb1⟩
  have HB1 := Lib.hid (below_then HB0.out hb1)
  have HT1 := Lib.hid hT
  clear HB0 hb1 hT hg
  go_wp2_with fail
  have b1 := heap2 w1 (.cells #[.pointer (some ⟨g, 0, none⟩), .slice none 0 0, .int .i64 0, .int .i64 0] 34) (.cells #[.int .i64 a, .int .i64 b] 3)
  refine (step_two 9 a b g _ w1 HT1.out).mono ?_
  rintro e w2 ⟨A1, k1, A2, k2, rfl, hs1, hs2, hb2, hb2'⟩
  have c0 : w2.cell? ⟨w1.heap.size, 0, none⟩ = some (.pointer (some ⟨g, 0, none⟩)) := cell_below hb2' (cell_of_row _ _ 0 _ _ _ b1.1)
  have c1 : w2.cell? ⟨w1.heap.size, 1, none⟩ = some (.slice none 0 0) := cell_below hb2' (cell_of_row _ _ 1 _ _ _ b1.1)
  have c2 : w2.cell? ⟨w1.heap.size, 2, none⟩ = some (.int .i64 0) := cell_below hb2' (cell_of_row _ _ 2 _ _ _ b1.1)
  have c3 : w2.cell? ⟨w1.heap.size, 3, none⟩ = some (.int .i64 0) := cell_below hb2' (cell_of_row _ _ 3 _ _ _ b1.1)
  have HT2 := Lib.hid (HT1.out.below hb2)
  have HB2 := Lib.hid (below_then HB1.out hb2)
  have HF := Lib.hid ((⟨rfl, two_num 9 a b (by decide)⟩ : takesM 9 = 2 ∧ _))
  have HS1 := Lib.hid hs1
  have HS2 := Lib.hid hs2
  clear b1 hs1 hs2 hb2 hb2' HB1 HT1
  generalize twoM 9 a b = r at *
  obtain ⟨r1, r2, v⟩ := r
  simp only at HS1 HS2 HF
  simp only
  have hbx := below_alloc' (o := .cells #[.slice A1 r1.length k1, .slice A2 r2.length k2] 30) (below_refl w2)
  have d0 := cell_below hbx c0
  have d1 := cell_below hbx c1
  have d2 := cell_below hbx c2
  have d3 := cell_below hbx c3
  have bb := heap_alloc_new w2 (.cells #[.slice A1 r1.length k1, .slice A2 r2.length k2] 30)
  have e0 : (w2.alloc (.cells #[.slice A1 r1.length k1, .slice A2 r2.length k2] 30)).cell? ⟨w2.heap.size, 0, none⟩ = some (.slice A1 r1.length k1) := cell_of_row _ _ 0 _ _ _ bb
  have e1 : (w2.alloc (.cells #[.slice A1 r1.length k1, .slice A2 r2.length k2] 30)).cell? ⟨w2.heap.size, 1, none⟩ = some (.slice A2 r2.length k2) := cell_of_row _ _ 1 _ _ _ bb
  have HBX := Lib.hid hbx
  clear bb hbx
  go_wp2_with fail
  refine (eff_two 9 g _ (HT2.out.below HBX.out)).mono ?_
  rintro e w3 ⟨n, rfl, hb3⟩
  have HB3 := Lib.hid (below_then HB2.out (below_then HBX.out hb3))
  have HS3 := Lib.hid ((HS1.out.below HBX.out).below hb3)
  have HS4 := Lib.hid ((HS2.out.below HBX.out).below hb3)
  have f0 := cell_below hb3 e0
  have f1 := cell_below hb3 e1
  clear hb3 HB2 HBX HS1 HS2 e0 e1 d0 d1 d2 d3 c0 c1 c2 c3 HT2
  generalize takesM 9 = t at *
  obtain ⟨ht, v', e, hv⟩ := HF.out
  cases e
  clear HF
  subst ht
  have HX := Lib.hid (text_0 A1 k1 A2 k2 w3 HS3.out HS4.out)
  by_cases ha : a = 0
  · subst ha
    by_cases hb : b = 0
    · subst hb
      have hv0 : v = 0 := hv.2 ⟨rfl, rfl⟩
      subst hv0
      clear hv
      go_wp2_with (go_at_call 29; refine HX.out.mono ?_; rintro e w4 ⟨rfl, hb4⟩)
      all_goals first
        | (go_ret; exact ⟨rfl, below_then HB3.out (by assumption)⟩)
        | (go_ret; refine ⟨?_, below_then HB3.out (by assumption)⟩; show Ending.returned (.bool (!(v == 0))) = _; rw [beq_eq_false_iff_ne.2 hv0]; rfl)
        | (exfalso; rename_i hx; exact hx (by simp [show (0 : Int) = 0 from rfl]))
    · have hv0 : ¬ v = 0 := fun h => hb (hv.1 h).2
      clear hv
      go_wp2_with (go_at_call 29; refine HX.out.mono ?_; rintro e w4 ⟨rfl, hb4⟩)
      all_goals first
        | (go_ret; exact ⟨rfl, below_then HB3.out (by assumption)⟩)
        | (go_ret; refine ⟨?_, below_then HB3.out (by assumption)⟩; show Ending.returned (.bool (!(v == 0))) = _; rw [beq_eq_false_iff_ne.2 hv0]; rfl)
        | (exfalso; rename_i hx; exact hx (by simp [beq_eq_false_iff_ne.2 hb, beq_eq_false_iff_ne.2 hv0]))
  · have hv0 : ¬ v = 0 := fun h => ha (hv.1 h).1
    clear hv
    go_wp2_with (go_at_call 29; refine HX.out.mono ?_; rintro e w4 ⟨rfl, hb4⟩)
    all_goals first
      | (go_ret; exact ⟨rfl, below_then HB3.out (by assumption)⟩)
      | (go_ret; refine ⟨?_, below_then HB3.out (by assumption)⟩; show Ending.returned (.bool (!(v == 0))) = _; rw [beq_eq_false_iff_ne.2 hv0]; rfl)
      | (exfalso; rename_i hx; exact hx (by simp [beq_eq_false_iff_ne.2 ha, beq_eq_false_iff_ne.2 hv0]))
set_option maxHeartbeats 4000000 in
theorem needs_10 (a b : Int) (w : World) : Calls Tryd.prog 5 #[.int .i64 10, .int .i64 a, .int .i64 b] w fun e w' => e = .returned (.bool true) ∧ Below w.heap.size w w' := by
  go_enter Tryd.func5, Tryd.ntmps5
  go_wp2_with fail
  refine (shown_calls w).mono ?_
  rintro e w0 ⟨rfl, hb0⟩
  have HB0 := Lib.hid hb0
  clear hb0
  go_wp2_with fail
  refine (new_nil w0).mono ?_
  rintro e w1 ⟨g, rfl, hg, hT, hb1⟩
  have HB1 := Lib.hid (below_then HB0.out hb1)
  have HT1 := Lib.hid hT
  clear HB0 hb1 hT hg
  go_wp2_with fail
  have b1 := heap2 w1 (.cells #[.pointer (some ⟨g, 0, none⟩), .slice none 0 0, .int .i64 0, .int .i64 0] 34) (.cells #[.int .i64 a, .int .i64 b] 3)
  refine (step_two 10 a b g _ w1 HT1.out).mono ?_
  rintro e w2 ⟨A1, k1, A2, k2, rfl, hs1, hs2, hb2, hb2'⟩
  have c0 : w2.cell? ⟨w1.heap.size, 0, none⟩ = some (.pointer (some ⟨g, 0, none⟩)) := cell_below hb2' (cell_of_row _ _ 0 _ _ _ b1.1)
  have c1 : w2.cell? ⟨w1.heap.size, 1, none⟩ = some (.slice none 0 0) := cell_below hb2' (cell_of_row _ _ 1 _ _ _ b1.1)
  have c2 : w2.cell? ⟨w1.heap.size, 2, none⟩ = some (.int .i64 0) := cell_below hb2' (cell_of_row _ _ 2 _ _ _ b1.1)
  have c3 : w2.cell? ⟨w1.heap.size, 3, none⟩ = some (.int .i64 0) := cell_below hb2' (cell_of_row _ _ 3 _ _ _ b1.1)
  have HT2 := Lib.hid (HT1.out.below hb2)
  have HB2 := Lib.hid (below_then HB1.out hb2)
  have HF := Lib.hid ((⟨rfl, two_num 10 a b (by decide)⟩ : takesM 10 = 2 ∧ _))
  have HS1 := Lib.hid hs1
  have HS2 := Lib.hid hs2
  clear b1 hs1 hs2 hb2 hb2' HB1 HT1
  generalize twoM 10 a b = r at *
  obtain ⟨r1, r2, v⟩ := r
  simp only at HS1 HS2 HF
  simp only
  have hbx := below_alloc' (o := .cells #[.slice A1 r1.length k1, .slice A2 r2.length k2] 30) (below_refl w2)
  have d0 := cell_below hbx c0
  have d1 := cell_below hbx c1
  have d2 := cell_below hbx c2
  have d3 := cell_below hbx c3
  have bb := heap_alloc_new w2 (.cells #[.slice A1 r1.length k1, .slice A2 r2.length k2] 30)
  have e0 : (w2.alloc (.cells #[.slice A1 r1.length k1, .slice A2 r2.length k2] 30)).cell? ⟨w2.heap.size, 0, none⟩ = some (.slice A1 r1.length k1) := cell_of_row _ _ 0 _ _ _ bb
  have e1 : (w2.alloc (.cells #[.slice A1 r1.length k1, .slice A2 r2.length k2] 30)).cell? ⟨w2.heap.size, 1, none⟩ = some (.slice A2 r2.length k2) := cell_of_row _ _ 1 _ _ _ bb
  have HBX := Lib.hid hbx
  clear bb hbx
  go_wp2_with fail
  refine (eff_two 10 g _ (HT2.out.below HBX.out)).mono ?_
  rintro e w3 ⟨n, rfl, hb3⟩
  have HB3 := Lib.hid (below_then HB2.out (below_then HBX.out hb3))
  have HS3 := Lib.hid ((HS1.out.below HBX.out).below hb3)
  have HS4 := Lib.hid ((HS2.out.below HBX.out).below hb3)
  have f0 := cell_below hb3 e0
  have f1 := cell_below hb3 e1
  clear hb3 HB2 HBX HS1 HS2 e0 e1 d0 d1 d2 d3 c0 c1 c2 c3 HT2
  generalize takesM 10 = t at *
  obtain ⟨ht, v', e, hv⟩ := HF.out
  cases e
  clear HF
  subst ht
  have HX := Lib.hid (text_0 A1 k1 A2 k2 w3 HS3.out HS4.out)
  by_cases ha : a = 0
  · subst ha
    by_cases hb : b = 0
    · subst hb
      have hv0 : v = 0 := hv.2 ⟨rfl, rfl⟩
      subst hv0
      clear hv
      go_wp2_with (go_at_call 29; refine HX.out.mono ?_; rintro e w4 ⟨rfl, hb4⟩)
      all_goals first
        | (go_ret; exact ⟨rfl, below_then HB3.out (by assumption)⟩)
        | (go_ret; refine ⟨?_, below_then HB3.out (by assumption)⟩; show Ending.returned (.bool (!(v == 0))) = _; rw [beq_eq_false_iff_ne.2 hv0]; rfl)
        | (exfalso; rename_i hx; exact hx (by simp [show (0 : Int) = 0 from rfl]))
    · have hv0 : ¬ v = 0 := fun h => hb (hv.1 h).2
      clear hv
      go_wp2_with (go_at_call 29; refine HX.out.mono ?_; rintro e w4 ⟨rfl, hb4⟩)
      all_goals first
        | (go_ret; exact ⟨rfl, below_then HB3.out (by assumption)⟩)
        | (go_ret; refine ⟨?_, below_then HB3.out (by assumption)⟩; show Ending.returned (.bool (!(v == 0))) = _; rw [beq_eq_false_iff_ne.2 hv0]; rfl)
        | (exfalso; rename_i hx; exact hx (by simp [beq_eq_false_iff_ne.2 hb, beq_eq_false_iff_ne.2 hv0]))
  · have hv0 : ¬ v = 0 := fun h => ha (hv.1 h).1
    clear hv
    go_wp2_with (go_at_call 29; refine HX.out.mono ?_; rintro e w4 ⟨rfl, hb4⟩)
    all_goals first
      | (go_ret; exact ⟨rfl, below_then HB3.out (by assumption)⟩)
      | (go_ret; refine ⟨?_, below_then HB3.out (by assumption)⟩; show Ending.returned (.bool (!(v == 0))) = _; rw [beq_eq_false_iff_ne.2 hv0]; rfl)
      | (exfalso; rename_i hx; exact hx (by simp [beq_eq_false_iff_ne.2 ha, beq_eq_false_iff_ne.2 hv0]))
set_option maxHeartbeats 4000000 in
theorem needs_11 (a b : Int) (w : World) : Calls Tryd.prog 5 #[.int .i64 11, .int .i64 a, .int .i64 b] w fun e w' => e = .returned (.bool true) ∧ Below w.heap.size w w' := by
  go_enter Tryd.func5, Tryd.ntmps5
  go_wp2_with fail
  refine (shown_calls w).mono ?_
  rintro e w0 ⟨rfl, hb0⟩
  have HB0 := Lib.hid hb0
  clear hb0
  go_wp2_with fail
  refine (new_nil w0).mono ?_
  rintro e w1 ⟨g, rfl, hg, hT, hb1⟩
  have HB1 := Lib.hid (below_then HB0.out hb1)
  have HT1 := Lib.hid hT
  clear HB0 hb1 hT hg
  go_wp2_with fail
  have b1 := heap2 w1 (.cells #[.pointer (some ⟨g, 0, none⟩), .slice none 0 0, .int .i64 0, .int .i64 0] 34) (.cells #[.int .i64 a, .int .i64 b] 3)
  refine (step_two 11 a b g _ w1 HT1.out).mono ?_
  rintro e w2 ⟨A1, k1, A2, k2, rfl, hs1, hs2, hb2, hb2'⟩
  have c0 : w2.cell? ⟨w1.heap.size, 0, none⟩ = some (.pointer (some ⟨g, 0, none⟩)) := cell_below hb2' (cell_of_row _ _ 0 _ _ _ b1.1)
  have c1 : w2.cell? ⟨w1.heap.size, 1, none⟩ = some (.slice none 0 0) := cell_below hb2' (cell_of_row _ _ 1 _ _ _ b1.1)
  have c2 : w2.cell? ⟨w1.heap.size, 2, none⟩ = some (.int .i64 0) := cell_below hb2' (cell_of_row _ _ 2 _ _ _ b1.1)
  have c3 : w2.cell? ⟨w1.heap.size, 3, none⟩ = some (.int .i64 0) := cell_below hb2' (cell_of_row _ _ 3 _ _ _ b1.1)
  have HT2 := Lib.hid (HT1.out.below hb2)
  have HB2 := Lib.hid (below_then HB1.out hb2)
  have HF := Lib.hid ((⟨rfl, two_num 11 a b (by decide)⟩ : takesM 11 = 2 ∧ _))
  have HS1 := Lib.hid hs1
  have HS2 := Lib.hid hs2
  clear b1 hs1 hs2 hb2 hb2' HB1 HT1
  generalize twoM 11 a b = r at *
  obtain ⟨r1, r2, v⟩ := r
  simp only at HS1 HS2 HF
  simp only
  have hbx := below_alloc' (o := .cells #[.slice A1 r1.length k1, .slice A2 r2.length k2] 30) (below_refl w2)
  have d0 := cell_below hbx c0
  have d1 := cell_below hbx c1
  have d2 := cell_below hbx c2
  have d3 := cell_below hbx c3
  have bb := heap_alloc_new w2 (.cells #[.slice A1 r1.length k1, .slice A2 r2.length k2] 30)
  have e0 : (w2.alloc (.cells #[.slice A1 r1.length k1, .slice A2 r2.length k2] 30)).cell? ⟨w2.heap.size, 0, none⟩ = some (.slice A1 r1.length k1) := cell_of_row _ _ 0 _ _ _ bb
  have e1 : (w2.alloc (.cells #[.slice A1 r1.length k1, .slice A2 r2.length k2] 30)).cell? ⟨w2.heap.size, 1, none⟩ = some (.slice A2 r2.length k2) := cell_of_row _ _ 1 _ _ _ bb
  have HBX := Lib.hid hbx
  clear bb hbx
  go_wp2_with fail
  refine (eff_two 11 g _ (HT2.out.below HBX.out)).mono ?_
  rintro e w3 ⟨n, rfl, hb3⟩
  have HB3 := Lib.hid (below_then HB2.out (below_then HBX.out hb3))
  have HS3 := Lib.hid ((HS1.out.below HBX.out).below hb3)
  have HS4 := Lib.hid ((HS2.out.below HBX.out).below hb3)
  have f0 := cell_below hb3 e0
  have f1 := cell_below hb3 e1
  clear hb3 HB2 HBX HS1 HS2 e0 e1 d0 d1 d2 d3 c0 c1 c2 c3 HT2
  generalize takesM 11 = t at *
  obtain ⟨ht, v', e, hv⟩ := HF.out
  cases e
  clear HF
  subst ht
  have HX := Lib.hid (text_0 A1 k1 A2 k2 w3 HS3.out HS4.out)
  by_cases ha : a = 0
  · subst ha
    by_cases hb : b = 0
    · subst hb
      have hv0 : v = 0 := hv.2 ⟨rfl, rfl⟩
      subst hv0
      clear hv
      go_wp2_with (go_at_call 29; refine HX.out.mono ?_; rintro e w4 ⟨rfl, hb4⟩)
      all_goals first
        | (go_ret; exact ⟨rfl, below_then HB3.out (by assumption)⟩)
        | (go_ret; refine ⟨?_, below_then HB3.out (by assumption)⟩; show Ending.returned (.bool (!(v == 0))) = _; rw [beq_eq_false_iff_ne.2 hv0]; rfl)
        | (exfalso; rename_i hx; exact hx (by simp [show (0 : Int) = 0 from rfl]))
    · have hv0 : ¬ v = 0 := fun h => hb (hv.1 h).2
      clear hv
      go_wp2_with (go_at_call 29; refine HX.out.mono ?_; rintro e w4 ⟨rfl, hb4⟩)
      all_goals first
        | (go_ret; exact ⟨rfl, below_then HB3.out (by assumption)⟩)
        | (go_ret; refine ⟨?_, below_then HB3.out (by assumption)⟩; show Ending.returned (.bool (!(v == 0))) = _; rw [beq_eq_false_iff_ne.2 hv0]; rfl)
        | (exfalso; rename_i hx; exact hx (by simp [beq_eq_false_iff_ne.2 hb, beq_eq_false_iff_ne.2 hv0]))
  · have hv0 : ¬ v = 0 := fun h => ha (hv.1 h).1
    clear hv
    go_wp2_with (go_at_call 29; refine HX.out.mono ?_; rintro e w4 ⟨rfl, hb4⟩)
    all_goals first
      | (go_ret; exact ⟨rfl, below_then HB3.out (by assumption)⟩)
      | (go_ret; refine ⟨?_, below_then HB3.out (by assumption)⟩; show Ending.returned (.bool (!(v == 0))) = _; rw [beq_eq_false_iff_ne.2 hv0]; rfl)
      | (exfalso; rename_i hx; exact hx (by simp [beq_eq_false_iff_ne.2 ha, beq_eq_false_iff_ne.2 hv0]))
set_option maxHeartbeats 4000000 in
theorem needs_12 (a b : Int) (w : World) : Calls Tryd.prog 5 #[.int .i64 12, .int .i64 a, .int .i64 b] w fun e w' => e = .returned (.bool true) ∧ Below w.heap.size w w' := by
  go_enter Tryd.func5, Tryd.ntmps5
  go_wp2_with fail
  refine (shown_calls w).mono ?_
  rintro e w0 ⟨rfl, hb0⟩
  have HB0 := Lib.hid hb0
  clear hb0
  go_wp2_with fail
  refine (new_nil w0).mono ?_
  rintro e w1 ⟨g, rfl, hg, hT, hb1⟩
  have HB1 := Lib.hid (below_then HB0.out hb1)
  have HT1 := Lib.hid hT
  clear HB0 hb1 hT hg
  go_wp2_with fail
  have b1 := heap2 w1 (.cells #[.pointer (some ⟨g, 0, none⟩), .slice none 0 0, .int .i64 0, .int .i64 0] 34) (.cells #[.int .i64 a, .int .i64 b] 3)
  refine (step_two 12 a b g _ w1 HT1.out).mono ?_
  rintro e w2 ⟨A1, k1, A2, k2, rfl, hs1, hs2, hb2, hb2'⟩
  have c0 : w2.cell? ⟨w1.heap.size, 0, none⟩ = some (.pointer (some ⟨g, 0, none⟩)) := cell_below hb2' (cell_of_row _ _ 0 _ _ _ b1.1)
  have c1 : w2.cell? ⟨w1.heap.size, 1, none⟩ = some (.slice none 0 0) := cell_below hb2' (cell_of_row _ _ 1 _ _ _ b1.1)
  have c2 : w2.cell? ⟨w1.heap.size, 2, none⟩ = some (.int .i64 0) := cell_below hb2' (cell_of_row _ _ 2 _ _ _ b1.1)
  have c3 : w2.cell? ⟨w1.heap.size, 3, none⟩ = some (.int .i64 0) := cell_below hb2' (cell_of_row _ _ 3 _ _ _ b1.1)
  have HT2 := Lib.hid (HT1.out.below hb2)
  have HB2 := Lib.hid (below_then HB1.out hb2)
  have HF := Lib.hid ((⟨rfl, two_num 12 a b (by decide)⟩ : takesM 12 = 2 ∧ _))
  have HS1 := Lib.hid hs1
  have HS2 := Lib.hid hs2
  clear b1 hs1 hs2 hb2 hb2' HB1 HT1
  generalize twoM 12 a b = r at *
  obtain ⟨r1, r2, v⟩ := r
  simp only at HS1 HS2 HF
  simp only
  have hbx := below_alloc' (o := .cells #[.slice A1 r1.length k1, .slice A2 r2.length k2] 30) (below_refl w2)
  have d0 := cell_below hbx c0
  have d1 := cell_below hbx c1
  have d2 := cell_below hbx c2
  have d3 := cell_below hbx c3
  have bb := heap_alloc_new w2 (.cells #[.slice A1 r1.length k1, .slice A2 r2.length k2] 30)
  have e0 : (w2.alloc (.cells #[.slice A1 r1.length k1, .slice A2 r2.length k2] 30)).cell? ⟨w2.heap.size, 0, none⟩ = some (.slice A1 r1.length k1) := cell_of_row _ _ 0 _ _ _ bb
  have e1 : (w2.alloc (.cells #[.slice A1 r1.length k1, .slice A2 r2.length k2] 30)).cell? ⟨w2.heap.size, 1, none⟩ = some (.slice A2 r2.length k2) := cell_of_row _ _ 1 _ _ _ bb
  have HBX := Lib.hid hbx
  clear bb hbx
  go_wp2_with fail
  refine (eff_two 12 g _ (HT2.out.below HBX.out)).mono ?_
  rintro e w3 ⟨n, rfl, hb3⟩
  have HB3 := Lib.hid (below_then HB2.out (below_then HBX.out hb3))
  have HS3 := Lib.hid ((HS1.out.below HBX.out).below hb3)
  have HS4 := Lib.hid ((HS2.out.below HBX.out).below hb3)
  have f0 := cell_below hb3 e0
  have f1 := cell_below hb3 e1
  clear hb3 HB2 HBX HS1 HS2 e0 e1 d0 d1 d2 d3 c0 c1 c2 c3 HT2
  generalize takesM 12 = t at *
  obtain ⟨ht, v', e, hv⟩ := HF.out
  cases e
  clear HF
  subst ht
  have HX := Lib.hid (text_0 A1 k1 A2 k2 w3 HS3.out HS4.out)
  by_cases ha : a = 0
  · subst ha
    by_cases hb : b = 0
    · subst hb
      have hv0 : v = 0 := hv.2 ⟨rfl, rfl⟩
      subst hv0
      clear hv
      go_wp2_with (go_at_call 29; refine HX.out.mono ?_; rintro e w4 ⟨rfl, hb4⟩)
      all_goals first
        | (go_ret; exact ⟨rfl, below_then HB3.out (by assumption)⟩)
        | (go_ret; refine ⟨?_, below_then HB3.out (by assumption)⟩; show Ending.returned (.bool (!(v == 0))) = _; rw [beq_eq_false_iff_ne.2 hv0]; rfl)
        | (exfalso; rename_i hx; exact hx (by simp [show (0 : Int) = 0 from rfl]))
    · have hv0 : ¬ v = 0 := fun h => hb (hv.1 h).2
      clear hv
      go_wp2_with (go_at_call 29; refine HX.out.mono ?_; rintro e w4 ⟨rfl, hb4⟩)
      all_goals first
        | (go_ret; exact ⟨rfl, below_then HB3.out (by assumption)⟩)
        | (go_ret; refine ⟨?_, below_then HB3.out (by assumption)⟩; show Ending.returned (.bool (!(v == 0))) = _; rw [beq_eq_false_iff_ne.2 hv0]; rfl)
        | (exfalso; rename_i hx; exact hx (by simp [beq_eq_false_iff_ne.2 hb, beq_eq_false_iff_ne.2 hv0]))
  · have hv0 : ¬ v = 0 := fun h => ha (hv.1 h).1
    clear hv
    go_wp2_with (go_at_call 29; refine HX.out.mono ?_; rintro e w4 ⟨rfl, hb4⟩)
    all_goals first
      | (go_ret; exact ⟨rfl, below_then HB3.out (by assumption)⟩)
      | (go_ret; refine ⟨?_, below_then HB3.out (by assumption)⟩; show Ending.returned (.bool (!(v == 0))) = _; rw [beq_eq_false_iff_ne.2 hv0]; rfl)
      | (exfalso; rename_i hx; exact hx (by simp [beq_eq_false_iff_ne.2 ha, beq_eq_false_iff_ne.2 hv0]))
set_option maxHeartbeats 4000000 in
theorem needs_13 (a b : Int) (w : World) : Calls Tryd.prog 5 #[.int .i64 13, .int .i64 a, .int .i64 b] w fun e w' => e = .returned (.bool true) ∧ Below w.heap.size w w' := by
  go_enter Tryd.func5, Tryd.ntmps5
  go_wp2_with fail
  refine (shown_calls w).mono ?_
  rintro e w0 ⟨rfl, hb0⟩
  have HB0 := Lib.hid hb0
  clear hb0
  go_wp2_with fail
  refine (new_nil w0).mono ?_
  rintro e w1 ⟨g, rfl, hg, hT, hb1⟩
  have HB1 := Lib.hid (below_then HB0.out hb1)
  have HT1 := Lib.hid hT
  clear HB0 hb1 hT hg
  go_wp2_with fail
  have b1 := heap2 w1 (.cells #[.pointer (some ⟨g, 0, none⟩), .slice none 0 0, .int .i64 0, .int .i64 0] 34) (.cells #[.int .i64 a, .int .i64 b] 3)
  refine (step_two 13 a b g _ w1 HT1.out).mono ?_
  rintro e w2 ⟨A1, k1, A2, k2, rfl, hs1, hs2, hb2, hb2'⟩
  have c0 : w2.cell? ⟨w1.heap.size, 0, none⟩ = some (.pointer (some ⟨g, 0, none⟩)) := cell_below hb2' (cell_of_row _ _ 0 _ _ _ b1.1)
  have c1 : w2.cell? ⟨w1.heap.size, 1, none⟩ = some (.slice none 0 0) := cell_below hb2' (cell_of_row _ _ 1 _ _ _ b1.1)
  have c2 : w2.cell? ⟨w1.heap.size, 2, none⟩ = some (.int .i64 0) := cell_below hb2' (cell_of_row _ _ 2 _ _ _ b1.1)
  have c3 : w2.cell? ⟨w1.heap.size, 3, none⟩ = some (.int .i64 0) := cell_below hb2' (cell_of_row _ _ 3 _ _ _ b1.1)
  have HT2 := Lib.hid (HT1.out.below hb2)
  have HB2 := Lib.hid (below_then HB1.out hb2)
  have HF := Lib.hid ((⟨rfl, two_less a b⟩ : takesM 13 = 2 ∧ _))
  have HS1 := Lib.hid hs1
  have HS2 := Lib.hid hs2
  clear b1 hs1 hs2 hb2 hb2' HB1 HT1
  generalize twoM 13 a b = r at *
  obtain ⟨r1, r2, v⟩ := r
  simp only at HS1 HS2 HF
  simp only
  have hbx := below_alloc' (o := .cells #[.slice A1 r1.length k1, .slice A2 r2.length k2] 30) (below_refl w2)
  have d0 := cell_below hbx c0
  have d1 := cell_below hbx c1
  have d2 := cell_below hbx c2
  have d3 := cell_below hbx c3
  have bb := heap_alloc_new w2 (.cells #[.slice A1 r1.length k1, .slice A2 r2.length k2] 30)
  have e0 : (w2.alloc (.cells #[.slice A1 r1.length k1, .slice A2 r2.length k2] 30)).cell? ⟨w2.heap.size, 0, none⟩ = some (.slice A1 r1.length k1) := cell_of_row _ _ 0 _ _ _ bb
  have e1 : (w2.alloc (.cells #[.slice A1 r1.length k1, .slice A2 r2.length k2] 30)).cell? ⟨w2.heap.size, 1, none⟩ = some (.slice A2 r2.length k2) := cell_of_row _ _ 1 _ _ _ bb
  have HBX := Lib.hid hbx
  clear bb hbx
  go_wp2_with fail
  refine (eff_two 13 g _ (HT2.out.below HBX.out)).mono ?_
  rintro e w3 ⟨n, rfl, hb3⟩
  have HB3 := Lib.hid (below_then HB2.out (below_then HBX.out hb3))
  have HS3 := Lib.hid ((HS1.out.below HBX.out).below hb3)
  have HS4 := Lib.hid ((HS2.out.below HBX.out).below hb3)
  have f0 := cell_below hb3 e0
  have f1 := cell_below hb3 e1
  clear hb3 HB2 HBX HS1 HS2 e0 e1 d0 d1 d2 d3 c0 c1 c2 c3 HT2
  generalize takesM 13 = t at *
  obtain ⟨ht, v', e, hv⟩ := HF.out
  cases e
  clear HF
  subst ht
  have HX := Lib.hid (text_1 A1 k1 A2 k2 w3 HS3.out HS4.out)
  by_cases ha : a = 0
  · subst ha
    by_cases hb : b = 0
    · subst hb
      have hv0 : v = 0 := hv.2 ⟨rfl, rfl⟩
      subst hv0
      clear hv
      go_wp2_with (go_at_call 29; refine HX.out.mono ?_; rintro e w4 ⟨rfl, hb4⟩)
      all_goals first
        | (go_ret; exact ⟨rfl, below_then HB3.out (by assumption)⟩)
        | (go_ret; refine ⟨?_, below_then HB3.out (by assumption)⟩; show Ending.returned (.bool (!(v == 0))) = _; rw [beq_eq_false_iff_ne.2 hv0]; rfl)
        | (exfalso; rename_i hx; exact hx (by simp [show (0 : Int) = 0 from rfl]))
    · have hv0 : ¬ v = 0 := fun h => hb (hv.1 h).2
      clear hv
      go_wp2_with (go_at_call 29; refine HX.out.mono ?_; rintro e w4 ⟨rfl, hb4⟩)
      all_goals first
        | (go_ret; exact ⟨rfl, below_then HB3.out (by assumption)⟩)
        | (go_ret; refine ⟨?_, below_then HB3.out (by assumption)⟩; show Ending.returned (.bool (!(v == 0))) = _; rw [beq_eq_false_iff_ne.2 hv0]; rfl)
        | (exfalso; rename_i hx; exact hx (by simp [beq_eq_false_iff_ne.2 hb, beq_eq_false_iff_ne.2 hv0]))
  · have hv0 : ¬ v = 0 := fun h => ha (hv.1 h).1
    clear hv
    go_wp2_with (go_at_call 29; refine HX.out.mono ?_; rintro e w4 ⟨rfl, hb4⟩)
    all_goals first
      | (go_ret; exact ⟨rfl, below_then HB3.out (by assumption)⟩)
      | (go_ret; refine ⟨?_, below_then HB3.out (by assumption)⟩; show Ending.returned (.bool (!(v == 0))) = _; rw [beq_eq_false_iff_ne.2 hv0]; rfl)
      | (exfalso; rename_i hx; exact hx (by simp [beq_eq_false_iff_ne.2 ha, beq_eq_false_iff_ne.2 hv0]))
set_option maxHeartbeats 4000000 in
theorem needs_16 (a b : Int) (w : World) : Calls Tryd.prog 5 #[.int .i64 16, .int .i64 a, .int .i64 b] w fun e w' => e = .returned (.bool true) ∧ Below w.heap.size w w' := by
  go_enter Tryd.func5, Tryd.ntmps5
  go_wp2_with fail
  refine (shown_calls w).mono ?_
  rintro e w0 ⟨rfl, hb0⟩
  have HB0 := Lib.hid hb0
  clear hb0
  go_wp2_with fail
  refine (new_nil w0).mono ?_
  rintro e w1 ⟨g, rfl, hg, hT, hb1⟩
  have HB1 := Lib.hid (below_then HB0.out hb1)
  have HT1 := Lib.hid hT
  clear HB0 hb1 hT hg
  go_wp2_with fail
  have b1 := heap2 w1 (.cells #[.pointer (some ⟨g, 0, none⟩), .slice none 0 0, .int .i64 0, .int .i64 0] 34) (.cells #[.int .i64 a, .int .i64 b] 3)
  refine (step_two 16 a b g _ w1 HT1.out).mono ?_
  rintro e w2 ⟨A1, k1, A2, k2, rfl, hs1, hs2, hb2, hb2'⟩
  have c0 : w2.cell? ⟨w1.heap.size, 0, none⟩ = some (.pointer (some ⟨g, 0, none⟩)) := cell_below hb2' (cell_of_row _ _ 0 _ _ _ b1.1)
  have c1 : w2.cell? ⟨w1.heap.size, 1, none⟩ = some (.slice none 0 0) := cell_below hb2' (cell_of_row _ _ 1 _ _ _ b1.1)
  have c2 : w2.cell? ⟨w1.heap.size, 2, none⟩ = some (.int .i64 0) := cell_below hb2' (cell_of_row _ _ 2 _ _ _ b1.1)
  have c3 : w2.cell? ⟨w1.heap.size, 3, none⟩ = some (.int .i64 0) := cell_below hb2' (cell_of_row _ _ 3 _ _ _ b1.1)
  have HT2 := Lib.hid (HT1.out.below hb2)
  have HB2 := Lib.hid (below_then HB1.out hb2)
  have HF := Lib.hid ((⟨rfl, two_and 16 a b (by decide)⟩ : takesM 16 = 2 ∧ _))
  have HS1 := Lib.hid hs1
  have HS2 := Lib.hid hs2
  clear b1 hs1 hs2 hb2 hb2' HB1 HT1
  generalize twoM 16 a b = r at *
  obtain ⟨r1, r2, v⟩ := r
  simp only at HS1 HS2 HF
  simp only
  have hbx := below_alloc' (o := .cells #[.slice A1 r1.length k1, .slice A2 r2.length k2] 30) (below_refl w2)
  have d0 := cell_below hbx c0
  have d1 := cell_below hbx c1
  have d2 := cell_below hbx c2
  have d3 := cell_below hbx c3
  have bb := heap_alloc_new w2 (.cells #[.slice A1 r1.length k1, .slice A2 r2.length k2] 30)
  have e0 : (w2.alloc (.cells #[.slice A1 r1.length k1, .slice A2 r2.length k2] 30)).cell? ⟨w2.heap.size, 0, none⟩ = some (.slice A1 r1.length k1) := cell_of_row _ _ 0 _ _ _ bb
  have e1 : (w2.alloc (.cells #[.slice A1 r1.length k1, .slice A2 r2.length k2] 30)).cell? ⟨w2.heap.size, 1, none⟩ = some (.slice A2 r2.length k2) := cell_of_row _ _ 1 _ _ _ bb
  have HBX := Lib.hid hbx
  clear bb hbx
  go_wp2_with fail
  refine (eff_two 16 g _ (HT2.out.below HBX.out)).mono ?_
  rintro e w3 ⟨n, rfl, hb3⟩
  have HB3 := Lib.hid (below_then HB2.out (below_then HBX.out hb3))
  have HS3 := Lib.hid ((HS1.out.below HBX.out).below hb3)
  have HS4 := Lib.hid ((HS2.out.below HBX.out).below hb3)
  have f0 := cell_below hb3 e0
  have f1 := cell_below hb3 e1
  clear hb3 HB2 HBX HS1 HS2 e0 e1 d0 d1 d2 d3 c0 c1 c2 c3 HT2
  generalize takesM 16 = t at *
  obtain ⟨ht, v', e, hv⟩ := HF.out
  cases e
  clear HF
  subst ht
  have HX := Lib.hid (text_1 A1 k1 A2 k2 w3 HS3.out HS4.out)
  by_cases ha : a = 1
  · subst ha
    by_cases hb : b = 1
    · subst hb
      have hv0 : v = 0 := hv.2 ⟨rfl, rfl⟩
      subst hv0
      clear hv
      go_wp2_with (go_at_call 29; refine HX.out.mono ?_; rintro e w4 ⟨rfl, hb4⟩)
      all_goals first
        | (go_ret; exact ⟨rfl, below_then HB3.out (by assumption)⟩)
        | (go_ret; refine ⟨?_, below_then HB3.out (by assumption)⟩; show Ending.returned (.bool (!(v == 0))) = _; rw [beq_eq_false_iff_ne.2 hv0]; rfl)
        | (exfalso; rename_i hx; exact hx (by simp [show (0 : Int) = 0 from rfl]))
    · have hv0 : ¬ v = 0 := fun h => hb (hv.1 h).2
      clear hv
      go_wp2_with (go_at_call 29; refine HX.out.mono ?_; rintro e w4 ⟨rfl, hb4⟩)
      all_goals first
        | (go_ret; exact ⟨rfl, below_then HB3.out (by assumption)⟩)
        | (go_ret; refine ⟨?_, below_then HB3.out (by assumption)⟩; show Ending.returned (.bool (!(v == 0))) = _; rw [beq_eq_false_iff_ne.2 hv0]; rfl)
        | (exfalso; rename_i hx; exact hx (by simp [beq_eq_false_iff_ne.2 hb, beq_eq_false_iff_ne.2 hv0]))
  · have hv0 : ¬ v = 0 := fun h => ha (hv.1 h).1
    clear hv
    go_wp2_with (go_at_call 29; refine HX.out.mono ?_; rintro e w4 ⟨rfl, hb4⟩)
    all_goals first
      | (go_ret; exact ⟨rfl, below_then HB3.out (by assumption)⟩)
      | (go_ret; refine ⟨?_, below_then HB3.out (by assumption)⟩; show Ending.returned (.bool (!(v == 0))) = _; rw [beq_eq_false_iff_ne.2 hv0]; rfl)
      | (exfalso; rename_i hx; exact hx (by simp [beq_eq_false_iff_ne.2 ha, beq_eq_false_iff_ne.2 hv0]))
set_option maxHeartbeats 4000000 in
theorem needs_17 (a b : Int) (w : World) : Calls Tryd.prog 5 #[.int .i64 17, .int .i64 a, .int .i64 b] w fun e w' => e = .returned (.bool true) ∧ Below w.heap.size w w' := by
  go_enter Tryd.func5, Tryd.ntmps5
  go_wp2_with fail
  refine (shown_calls w).mono ?_
  rintro e w0 ⟨rfl, hb0⟩
  have HB0 := Lib.hid hb0
  clear hb0
  go_wp2_with fail
  refine (new_nil w0).mono ?_
  rintro e w1 ⟨g, rfl, hg, hT, hb1⟩
  have HB1 := Lib.hid (below_then HB0.out hb1)
  have HT1 := Lib.hid hT
  clear HB0 hb1 hT hg
  go_wp2_with fail
  have b1 := heap2 w1 (.cells #[.pointer (some ⟨g, 0, none⟩), .slice none 0 0, .int .i64 0, .int .i64 0] 34) (.cells #[.int .i64 a, .int .i64 b] 3)
  refine (step_two 17 a b g _ w1 HT1.out).mono ?_
  rintro e w2 ⟨A1, k1, A2, k2, rfl, hs1, hs2, hb2, hb2'⟩
  have c0 : w2.cell? ⟨w1.heap.size, 0, none⟩ = some (.pointer (some ⟨g, 0, none⟩)) := cell_below hb2' (cell_of_row _ _ 0 _ _ _ b1.1)
  have c1 : w2.cell? ⟨w1.heap.size, 1, none⟩ = some (.slice none 0 0) := cell_below hb2' (cell_of_row _ _ 1 _ _ _ b1.1)
  have c2 : w2.cell? ⟨w1.heap.size, 2, none⟩ = some (.int .i64 0) := cell_below hb2' (cell_of_row _ _ 2 _ _ _ b1.1)
  have c3 : w2.cell? ⟨w1.heap.size, 3, none⟩ = some (.int .i64 0) := cell_below hb2' (cell_of_row _ _ 3 _ _ _ b1.1)
  have HT2 := Lib.hid (HT1.out.below hb2)
  have HB2 := Lib.hid (below_then HB1.out hb2)
  have HF := Lib.hid ((⟨rfl, two_and 17 a b (by decide)⟩ : takesM 17 = 2 ∧ _))
  have HS1 := Lib.hid hs1
  have HS2 := Lib.hid hs2
  clear b1 hs1 hs2 hb2 hb2' HB1 HT1
  generalize twoM 17 a b = r at *
  obtain ⟨r1, r2, v⟩ := r
  simp only at HS1 HS2 HF
  simp only
  have hbx := below_alloc' (o := .cells #[.slice A1 r1.length k1, .slice A2 r2.length k2] 30) (below_refl w2)
  have d0 := cell_below hbx c0
  have d1 := cell_below hbx c1
  have d2 := cell_below hbx c2
  have d3 := cell_below hbx c3
  have bb := heap_alloc_new w2 (.cells #[.slice A1 r1.length k1, .slice A2 r2.length k2] 30)
  have e0 : (w2.alloc (.cells #[.slice A1 r1.length k1, .slice A2 r2.length k2] 30)).cell? ⟨w2.heap.size, 0, none⟩ = some (.slice A1 r1.length k1) := cell_of_row _ _ 0 _ _ _ bb
  have e1 : (w2.alloc (.cells #[.slice A1 r1.length k1, .slice A2 r2.length k2] 30)).cell? ⟨w2.heap.size, 1, none⟩ = some (.slice A2 r2.length k2) := cell_of_row _ _ 1 _ _ _ bb
  have HBX := Lib.hid hbx
  clear bb hbx
  go_wp2_with fail
  refine (eff_two 17 g _ (HT2.out.below HBX.out)).mono ?_
  rintro e w3 ⟨n, rfl, hb3⟩
  have HB3 := Lib.hid (below_then HB2.out (below_then HBX.out hb3))
  have HS3 := Lib.hid ((HS1.out.below HBX.out).below hb3)
  have HS4 := Lib.hid ((HS2.out.below HBX.out).below hb3)
  have f0 := cell_below hb3 e0
  have f1 := cell_below hb3 e1
  clear hb3 HB2 HBX HS1 HS2 e0 e1 d0 d1 d2 d3 c0 c1 c2 c3 HT2
  generalize takesM 17 = t at *
  obtain ⟨ht, v', e, hv⟩ := HF.out
  cases e
  clear HF
  subst ht
  have HX := Lib.hid (text_1 A1 k1 A2 k2 w3 HS3.out HS4.out)
  by_cases ha : a = 1
  · subst ha
    by_cases hb : b = 1
    · subst hb
      have hv0 : v = 0 := hv.2 ⟨rfl, rfl⟩
      subst hv0
      clear hv
      go_wp2_with (go_at_call 29; refine HX.out.mono ?_; rintro e w4 ⟨rfl, hb4⟩)
      all_goals first
        | (go_ret; exact ⟨rfl, below_then HB3.out (by assumption)⟩)
        | (go_ret; refine ⟨?_, below_then HB3.out (by assumption)⟩; show Ending.returned (.bool (!(v == 0))) = _; rw [beq_eq_false_iff_ne.2 hv0]; rfl)
        | (exfalso; rename_i hx; exact hx (by simp [show (0 : Int) = 0 from rfl]))
    · have hv0 : ¬ v = 0 := fun h => hb (hv.1 h).2
      clear hv
      go_wp2_with (go_at_call 29; refine HX.out.mono ?_; rintro e w4 ⟨rfl, hb4⟩)
      all_goals first
        | (go_ret; exact ⟨rfl, below_then HB3.out (by assumption)⟩)
        | (go_ret; refine ⟨?_, below_then HB3.out (by assumption)⟩; show Ending.returned (.bool (!(v == 0))) = _; rw [beq_eq_false_iff_ne.2 hv0]; rfl)
        | (exfalso; rename_i hx; exact hx (by simp [beq_eq_false_iff_ne.2 hb, beq_eq_false_iff_ne.2 hv0]))
  · have hv0 : ¬ v = 0 := fun h => ha (hv.1 h).1
    clear hv
    go_wp2_with (go_at_call 29; refine HX.out.mono ?_; rintro e w4 ⟨rfl, hb4⟩)
    all_goals first
      | (go_ret; exact ⟨rfl, below_then HB3.out (by assumption)⟩)
      | (go_ret; refine ⟨?_, below_then HB3.out (by assumption)⟩; show Ending.returned (.bool (!(v == 0))) = _; rw [beq_eq_false_iff_ne.2 hv0]; rfl)
      | (exfalso; rename_i hx; exact hx (by simp [beq_eq_false_iff_ne.2 ha, beq_eq_false_iff_ne.2 hv0]))
set_option maxHeartbeats 4000000 in
theorem needs_14 (a b : Int) (w : World) : Calls Tryd.prog 5 #[.int .i64 14, .int .i64 a, .int .i64 b] w fun e w' => e = .returned (.bool true) ∧ Below w.heap.size w w' := by
  go_enter Tryd.func5, Tryd.ntmps5
  go_wp2_with fail
  refine (shown_calls w).mono ?_
  rintro e w0 ⟨rfl, hb0⟩
  have HB0 := Lib.hid hb0
  clear hb0
  go_wp2_with fail
  refine (new_nil w0).mono ?_
  rintro e w1 ⟨g, rfl, hg, hT, hb1⟩
  have HB1 := Lib.hid (below_then HB0.out hb1)
  have HT1 := Lib.hid hT
  clear HB0 hb1 hT hg
  go_wp2_with fail
  have b1 := heap2 w1 (.cells #[.pointer (some ⟨g, 0, none⟩), .slice none 0 0, .int .i64 0, .int .i64 0] 34) (.cells #[.int .i64 a, .int .i64 b] 3)
  refine (step_two 14 a b g _ w1 HT1.out).mono ?_
  rintro e w2 ⟨A1, k1, A2, k2, rfl, hs1, hs2, hb2, hb2'⟩
  have c0 : w2.cell? ⟨w1.heap.size, 0, none⟩ = some (.pointer (some ⟨g, 0, none⟩)) := cell_below hb2' (cell_of_row _ _ 0 _ _ _ b1.1)
  have c1 : w2.cell? ⟨w1.heap.size, 1, none⟩ = some (.slice none 0 0) := cell_below hb2' (cell_of_row _ _ 1 _ _ _ b1.1)
  have c2 : w2.cell? ⟨w1.heap.size, 2, none⟩ = some (.int .i64 0) := cell_below hb2' (cell_of_row _ _ 2 _ _ _ b1.1)
  have c3 : w2.cell? ⟨w1.heap.size, 3, none⟩ = some (.int .i64 0) := cell_below hb2' (cell_of_row _ _ 3 _ _ _ b1.1)
  have HT2 := Lib.hid (HT1.out.below hb2)
  have HB2 := Lib.hid (below_then HB1.out hb2)
  have HF := Lib.hid ((⟨rfl, two_same a b⟩ : takesM 14 = 2 ∧ _))
  have HS1 := Lib.hid hs1
  have HS2 := Lib.hid hs2
  clear b1 hs1 hs2 hb2 hb2' HB1 HT1
  generalize twoM 14 a b = r at *
  obtain ⟨r1, r2, v⟩ := r
  simp only at HS1 HS2 HF
  simp only
  have hbx := below_alloc' (o := .cells #[.slice A1 r1.length k1, .slice A2 r2.length k2] 30) (below_refl w2)
  have d0 := cell_below hbx c0
  have d1 := cell_below hbx c1
  have d2 := cell_below hbx c2
  have d3 := cell_below hbx c3
  have bb := heap_alloc_new w2 (.cells #[.slice A1 r1.length k1, .slice A2 r2.length k2] 30)
  have e0 : (w2.alloc (.cells #[.slice A1 r1.length k1, .slice A2 r2.length k2] 30)).cell? ⟨w2.heap.size, 0, none⟩ = some (.slice A1 r1.length k1) := cell_of_row _ _ 0 _ _ _ bb
  have e1 : (w2.alloc (.cells #[.slice A1 r1.length k1, .slice A2 r2.length k2] 30)).cell? ⟨w2.heap.size, 1, none⟩ = some (.slice A2 r2.length k2) := cell_of_row _ _ 1 _ _ _ bb
  have HBX := Lib.hid hbx
  clear bb hbx
  go_wp2_with fail
  refine (eff_two 14 g _ (HT2.out.below HBX.out)).mono ?_
  rintro e w3 ⟨n, rfl, hb3⟩
  have HB3 := Lib.hid (below_then HB2.out (below_then HBX.out hb3))
  have HS3 := Lib.hid ((HS1.out.below HBX.out).below hb3)
  have HS4 := Lib.hid ((HS2.out.below HBX.out).below hb3)
  have f0 := cell_below hb3 e0
  have f1 := cell_below hb3 e1
  clear hb3 HB2 HBX HS1 HS2 e0 e1 d0 d1 d2 d3 c0 c1 c2 c3 HT2
  generalize takesM 14 = t at *
  obtain ⟨ht, v', e, hv⟩ := HF.out
  cases e
  clear HF
  subst ht
  have HX := Lib.hid (text_1 A1 k1 A2 k2 w3 HS3.out HS4.out)
  by_cases ha : a = b
  · subst ha
    by_cases hb : a = -1
    · subst hb
      have hv0 : ¬ v = 0 := fun h => (hv.1 h).2 rfl
      clear hv
      go_wp2_with (go_at_call 29; refine HX.out.mono ?_; rintro e w4 ⟨rfl, hb4⟩)
      all_goals first
        | (go_ret; exact ⟨rfl, below_then HB3.out (by assumption)⟩)
        | (go_ret; refine ⟨?_, below_then HB3.out (by assumption)⟩; show Ending.returned (.bool (!(v == 0))) = _; rw [beq_eq_false_iff_ne.2 hv0]; rfl)
        | (exfalso; rename_i hx; exact hx (by simp [beq_eq_false_iff_ne.2 hv0]))
    · have hv0 : v = 0 := hv.2 ⟨rfl, hb⟩
      subst hv0
      clear hv
      go_wp2_with (go_at_call 29; refine HX.out.mono ?_; rintro e w4 ⟨rfl, hb4⟩)
      all_goals first
        | (go_ret; exact ⟨rfl, below_then HB3.out (by assumption)⟩)
        | (go_ret; refine ⟨?_, below_then HB3.out (by assumption)⟩; show Ending.returned (.bool (!(v == 0))) = _; rfl)
        | (exfalso; rename_i hx; exact hx (by simp [bne_iff_ne.2 hb, hb]))
        | (go_ret; refine ⟨by simp [hb, bne_iff_ne.2 hb, beq_eq_false_iff_ne.2 hb], below_then HB3.out (by assumption)⟩)
  · have hv0 : ¬ v = 0 := fun h => ha (hv.1 h).1
    clear hv
    go_wp2_with (go_at_call 29; refine HX.out.mono ?_; rintro e w4 ⟨rfl, hb4⟩)
    all_goals first
      | (go_ret; exact ⟨rfl, below_then HB3.out (by assumption)⟩)
      | (go_ret; refine ⟨?_, below_then HB3.out (by assumption)⟩; show Ending.returned (.bool (!(v == 0))) = _; rw [beq_eq_false_iff_ne.2 hv0]; rfl)
      | (exfalso; rename_i hx; exact hx (by simp [beq_eq_false_iff_ne.2 ha, beq_eq_false_iff_ne.2 hv0]))
set_option maxHeartbeats 4000000 in
theorem needs_5 (a b : Int) (w : World) : Calls Tryd.prog 5 #[.int .i64 5, .int .i64 a, .int .i64 b] w fun e w' => e = .returned (.bool true) ∧ Below w.heap.size w w' := by
  go_enter Tryd.func5, Tryd.ntmps5
  go_wp2_with fail
  refine (shown_calls w).mono ?_
  rintro e w0 ⟨rfl, hb0⟩
  have HB0 := Lib.hid hb0
  clear hb0
  go_wp2_with fail
  refine (new_nil w0).mono ?_
  rintro e w1 ⟨g, rfl, hg, hT, hb1⟩
  have HB1 := Lib.hid (below_then HB0.out hb1)
  have HT1 := Lib.hid hT
  clear HB0 hb1 hT hg
  go_wp2_with fail
  have b1 := heap2 w1 (.cells #[.pointer (some ⟨g, 0, none⟩), .slice none 0 0, .int .i64 0, .int .i64 0] 34) (.cells #[.int .i64 a, .int .i64 b] 3)
  refine (step_two 5 a b g _ w1 HT1.out).mono ?_
  rintro e w2 ⟨A1, k1, A2, k2, rfl, hs1, hs2, hb2, hb2'⟩
  have c0 : w2.cell? ⟨w1.heap.size, 0, none⟩ = some (.pointer (some ⟨g, 0, none⟩)) := cell_below hb2' (cell_of_row _ _ 0 _ _ _ b1.1)
  have c1 : w2.cell? ⟨w1.heap.size, 1, none⟩ = some (.slice none 0 0) := cell_below hb2' (cell_of_row _ _ 1 _ _ _ b1.1)
  have c2 : w2.cell? ⟨w1.heap.size, 2, none⟩ = some (.int .i64 0) := cell_below hb2' (cell_of_row _ _ 2 _ _ _ b1.1)
  have c3 : w2.cell? ⟨w1.heap.size, 3, none⟩ = some (.int .i64 0) := cell_below hb2' (cell_of_row _ _ 3 _ _ _ b1.1)
  have HT2 := Lib.hid (HT1.out.below hb2)
  have HB2 := Lib.hid (below_then HB1.out hb2)
  have HF := Lib.hid (trivial)
  have HS1 := Lib.hid hs1
  have HS2 := Lib.hid hs2
  clear b1 hs1 hs2 hb2 hb2' HB1 HT1
  generalize twoM 5 a b = r at *
  obtain ⟨r1, r2, v⟩ := r
  simp only at HS1 HS2 HF
  simp only
  have hbx := below_alloc' (o := .cells #[.slice A1 r1.length k1, .slice A2 r2.length k2] 30) (below_refl w2)
  have d0 := cell_below hbx c0
  have d1 := cell_below hbx c1
  have d2 := cell_below hbx c2
  have d3 := cell_below hbx c3
  have bb := heap_alloc_new w2 (.cells #[.slice A1 r1.length k1, .slice A2 r2.length k2] 30)
  have e0 : (w2.alloc (.cells #[.slice A1 r1.length k1, .slice A2 r2.length k2] 30)).cell? ⟨w2.heap.size, 0, none⟩ = some (.slice A1 r1.length k1) := cell_of_row _ _ 0 _ _ _ bb
  have e1 : (w2.alloc (.cells #[.slice A1 r1.length k1, .slice A2 r2.length k2] 30)).cell? ⟨w2.heap.size, 1, none⟩ = some (.slice A2 r2.length k2) := cell_of_row _ _ 1 _ _ _ bb
  have HBX := Lib.hid hbx
  clear bb hbx
  go_wp2_with fail
  refine (eff_two 5 g _ (HT2.out.below HBX.out)).mono ?_
  rintro e w3 ⟨n, rfl, hb3⟩
  have HB3 := Lib.hid (below_then HB2.out (below_then HBX.out hb3))
  have HS3 := Lib.hid ((HS1.out.below HBX.out).below hb3)
  have HS4 := Lib.hid ((HS2.out.below HBX.out).below hb3)
  have f0 := cell_below hb3 e0
  have f1 := cell_below hb3 e1
  clear hb3 HB2 HBX HS1 HS2 e0 e1 d0 d1 d2 d3 c0 c1 c2 c3 HT2
  generalize takesM 5 = t at *
  go_wp2_with fail
  all_goals go_ret
  all_goals exact ⟨rfl, HB3.out⟩
set_option maxHeartbeats 4000000 in
theorem needs_7 (a b : Int) (w : World) : Calls Tryd.prog 5 #[.int .i64 7, .int .i64 a, .int .i64 b] w fun e w' => e = .returned (.bool true) ∧ Below w.heap.size w w' := by
  go_enter Tryd.func5, Tryd.ntmps5
  go_wp2_with fail
  refine (shown_calls w).mono ?_
  rintro e w0 ⟨rfl, hb0⟩
  have HB0 := Lib.hid hb0
  clear hb0
  go_wp2_with fail
  refine (new_nil w0).mono ?_
  rintro e w1 ⟨g, rfl, hg, hT, hb1⟩
  have HB1 := Lib.hid (below_then HB0.out hb1)
  have HT1 := Lib.hid hT
  clear HB0 hb1 hT hg
  go_wp2_with fail
  have b1 := heap2 w1 (.cells #[.pointer (some ⟨g, 0, none⟩), .slice none 0 0, .int .i64 0, .int .i64 0] 34) (.cells #[.int .i64 a, .int .i64 b] 3)
  refine (step_two 7 a b g _ w1 HT1.out).mono ?_
  rintro e w2 ⟨A1, k1, A2, k2, rfl, hs1, hs2, hb2, hb2'⟩
  have c0 : w2.cell? ⟨w1.heap.size, 0, none⟩ = some (.pointer (some ⟨g, 0, none⟩)) := cell_below hb2' (cell_of_row _ _ 0 _ _ _ b1.1)
  have c1 : w2.cell? ⟨w1.heap.size, 1, none⟩ = some (.slice none 0 0) := cell_below hb2' (cell_of_row _ _ 1 _ _ _ b1.1)
  have c2 : w2.cell? ⟨w1.heap.size, 2, none⟩ = some (.int .i64 0) := cell_below hb2' (cell_of_row _ _ 2 _ _ _ b1.1)
  have c3 : w2.cell? ⟨w1.heap.size, 3, none⟩ = some (.int .i64 0) := cell_below hb2' (cell_of_row _ _ 3 _ _ _ b1.1)
  have HT2 := Lib.hid (HT1.out.below hb2)
  have HB2 := Lib.hid (below_then HB1.out hb2)
  have HF := Lib.hid (trivial)
  have HS1 := Lib.hid hs1
  have HS2 := Lib.hid hs2
  clear b1 hs1 hs2 hb2 hb2' HB1 HT1
  generalize twoM 7 a b = r at *
  obtain ⟨r1, r2, v⟩ := r
  simp only at HS1 HS2 HF
  simp only
  have hbx := below_alloc' (o := .cells #[.slice A1 r1.length k1, .slice A2 r2.length k2] 30) (below_refl w2)
  have d0 := cell_below hbx c0
  have d1 := cell_below hbx c1
  have d2 := cell_below hbx c2
  have d3 := cell_below hbx c3
  have bb := heap_alloc_new w2 (.cells #[.slice A1 r1.length k1, .slice A2 r2.length k2] 30)
  have e0 : (w2.alloc (.cells #[.slice A1 r1.length k1, .slice A2 r2.length k2] 30)).cell? ⟨w2.heap.size, 0, none⟩ = some (.slice A1 r1.length k1) := cell_of_row _ _ 0 _ _ _ bb
  have e1 : (w2.alloc (.cells #[.slice A1 r1.length k1, .slice A2 r2.length k2] 30)).cell? ⟨w2.heap.size, 1, none⟩ = some (.slice A2 r2.length k2) := cell_of_row _ _ 1 _ _ _ bb
  have HBX := Lib.hid hbx
  clear bb hbx
  go_wp2_with fail
  refine (eff_two 7 g _ (HT2.out.below HBX.out)).mono ?_
  rintro e w3 ⟨n, rfl, hb3⟩
  have HB3 := Lib.hid (below_then HB2.out (below_then HBX.out hb3))
  have HS3 := Lib.hid ((HS1.out.below HBX.out).below hb3)
  have HS4 := Lib.hid ((HS2.out.below HBX.out).below hb3)
  have f0 := cell_below hb3 e0
  have f1 := cell_below hb3 e1
  clear hb3 HB2 HBX HS1 HS2 e0 e1 d0 d1 d2 d3 c0 c1 c2 c3 HT2
  generalize takesM 7 = t at *
  go_wp2_with fail
  all_goals go_ret
  all_goals exact ⟨rfl, HB3.out⟩
set_option maxHeartbeats 4000000 in
theorem needs_other (op a b : Int) (n8 : ¬ op = 8) (n9 : ¬ op = 9) (n10 : ¬ op = 10) (n11 : ¬ op = 11) (n12 : ¬ op = 12) (n13 : ¬ op = 13) (n14 : ¬ op = 14) (n16 : ¬ op = 16) (n17 : ¬ op = 17) (n5 : ¬ op = 5) (n7 : ¬ op = 7) (w : World) : Calls Tryd.prog 5 #[.int .i64 op, .int .i64 a, .int .i64 b] w fun e w' => e = .returned (.bool true) ∧ Below w.heap.size w w' := by
  go_enter Tryd.func5, Tryd.ntmps5
  go_wp2_with fail
  refine (shown_calls w).mono ?_
  rintro e w0 ⟨rfl, hb0⟩
  have HB0 := Lib.hid hb0
  clear hb0
  go_wp2_with fail
  refine (new_nil w0).mono ?_
  rintro e w1 ⟨g, rfl, hg, hT, hb1⟩
  have HB1 := Lib.hid (below_then HB0.out hb1)
  have HT1 := Lib.hid hT
  clear HB0 hb1 hT hg
  go_wp2_with fail
  have b1 := heap2 w1 (.cells #[.pointer (some ⟨g, 0, none⟩), .slice none 0 0, .int .i64 0, .int .i64 0] 34) (.cells #[.int .i64 a, .int .i64 b] 3)
  refine (step_two op a b g _ w1 HT1.out).mono ?_
  rintro e w2 ⟨A1, k1, A2, k2, rfl, hs1, hs2, hb2, hb2'⟩
  have c0 : w2.cell? ⟨w1.heap.size, 0, none⟩ = some (.pointer (some ⟨g, 0, none⟩)) := cell_below hb2' (cell_of_row _ _ 0 _ _ _ b1.1)
  have c1 : w2.cell? ⟨w1.heap.size, 1, none⟩ = some (.slice none 0 0) := cell_below hb2' (cell_of_row _ _ 1 _ _ _ b1.1)
  have c2 : w2.cell? ⟨w1.heap.size, 2, none⟩ = some (.int .i64 0) := cell_below hb2' (cell_of_row _ _ 2 _ _ _ b1.1)
  have c3 : w2.cell? ⟨w1.heap.size, 3, none⟩ = some (.int .i64 0) := cell_below hb2' (cell_of_row _ _ 3 _ _ _ b1.1)
  have HT2 := Lib.hid (HT1.out.below hb2)
  have HB2 := Lib.hid (below_then HB1.out hb2)
  have HF := Lib.hid ((fun h => (two_void op a b h.1 h.2).elim n5 n7 : ¬ (((b = -1 ∧ 0 < takesM op) ∨ (a = -1 ∧ 1 < takesM op)) ∧ (twoM op a b).2.2 = 0)))
  have HS1 := Lib.hid hs1
  have HS2 := Lib.hid hs2
  clear b1 hs1 hs2 hb2 hb2' HB1 HT1
  generalize twoM op a b = r at *
  obtain ⟨r1, r2, v⟩ := r
  simp only at HS1 HS2 HF
  simp only
  have hbx := below_alloc' (o := .cells #[.slice A1 r1.length k1, .slice A2 r2.length k2] 30) (below_refl w2)
  have d0 := cell_below hbx c0
  have d1 := cell_below hbx c1
  have d2 := cell_below hbx c2
  have d3 := cell_below hbx c3
  have bb := heap_alloc_new w2 (.cells #[.slice A1 r1.length k1, .slice A2 r2.length k2] 30)
  have e0 : (w2.alloc (.cells #[.slice A1 r1.length k1, .slice A2 r2.length k2] 30)).cell? ⟨w2.heap.size, 0, none⟩ = some (.slice A1 r1.length k1) := cell_of_row _ _ 0 _ _ _ bb
  have e1 : (w2.alloc (.cells #[.slice A1 r1.length k1, .slice A2 r2.length k2] 30)).cell? ⟨w2.heap.size, 1, none⟩ = some (.slice A2 r2.length k2) := cell_of_row _ _ 1 _ _ _ bb
  have HBX := Lib.hid hbx
  clear bb hbx
  go_wp2_with fail
  refine (eff_two op g _ (HT2.out.below HBX.out)).mono ?_
  rintro e w3 ⟨n, rfl, hb3⟩
  have HB3 := Lib.hid (below_then HB2.out (below_then HBX.out hb3))
  have HS3 := Lib.hid ((HS1.out.below HBX.out).below hb3)
  have HS4 := Lib.hid ((HS2.out.below HBX.out).below hb3)
  have f0 := cell_below hb3 e0
  have f1 := cell_below hb3 e1
  clear hb3 HB2 HBX HS1 HS2 e0 e1 d0 d1 d2 d3 c0 c1 c2 c3 HT2
  generalize takesM op = t at *
  have hf := HF.out
  clear HF
  by_cases hv : v = 0
  · subst hv
    have hf1 : ¬ (b = -1 ∧ 0 < t) := fun h => hf ⟨.inl h, rfl⟩
    have hf2 : ¬ (a = -1 ∧ 1 < t) := fun h => hf ⟨.inr h, rfl⟩
    clear hf
    go_wp2_with fail
    all_goals first
      | (go_ret; exact ⟨rfl, HB3.out⟩)
      | (exfalso; omega)
  · clear hf
    go_wp2_with fail
    all_goals go_ret
    all_goals exact ⟨rfl, HB3.out⟩
theorem needs_calls (op a b : Int) (w : World) : Calls Tryd.prog 5 #[.int .i64 op, .int .i64 a, .int .i64 b] w fun e w' => e = .returned (.bool true) ∧ Below w.heap.size w w' := by
  by_cases n8 : op = 8
  · subst n8
    exact needs_8 a b w
  by_cases n9 : op = 9
  · subst n9
    exact needs_9 a b w
  by_cases n10 : op = 10
  · subst n10
    exact needs_10 a b w
  by_cases n11 : op = 11
  · subst n11
    exact needs_11 a b w
  by_cases n12 : op = 12
  · subst n12
    exact needs_12 a b w
  by_cases n13 : op = 13
  · subst n13
    exact needs_13 a b w
  by_cases n14 : op = 14
  · subst n14
    exact needs_14 a b w
  by_cases n16 : op = 16
  · subst n16
    exact needs_16 a b w
  by_cases n17 : op = 17
  · subst n17
    exact needs_17 a b w
  by_cases n5 : op = 5
  · subst n5
    exact needs_5 a b w
  by_cases n7 : op = 7
  · subst n7
    exact needs_7 a b w
  exact needs_other op a b n8 n9 n10 n11 n12 n13 n14 n16 n17 n5 n7 w
end Go.Proofs.YtdilmfnijkjiaaaDoor.K
