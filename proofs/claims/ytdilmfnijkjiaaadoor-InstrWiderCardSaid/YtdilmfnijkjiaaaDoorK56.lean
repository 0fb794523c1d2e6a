import Derived.Test.YtdilmfnijkjiaaaDoorK55
set_option maxRecDepth 100000
set_option linter.unusedSimpArgs false
set_option linter.unusedVariables false
namespace Go.Proofs.YtdilmfnijkjiaaaDoor.K
open Go.RowKit
set_option maxHeartbeats 2000000 in
theorem right4_8 (op a b : Int) (A : Option Addr) (c : Nat) (ts : List Ty) (F : Option Addr) (nf d : Nat) (locals code : Int) (w : World) (hf : (rowOf op).form = 8) (hT : TySl w A c ts) (hok : tysOk ts) (hr : a ≤ 9223372036854775807) :
    Calls Tryd.prog 59 #[.agg #[.int .i64 op, .int .i64 a, .int .i64 b], .agg #[.slice A ts.length c, .slice F nf d, .int .i64 locals, .int .i64 code]] w (BoolPost w ((kOf (allOf ts) a == 4) && belowB b nf)) := by
  have hB0 : Below w.heap.size w ((w.alloc (.cells #[.int .i64 op, .int .i64 a, .int .i64 b] 27)).alloc (.cells #[.slice A ts.length c, .slice F nf d, .int .i64 locals, .int .i64 code] 36)) := below_alloc' (below_alloc' (below_refl w))
  have hb := heap2' w (.cells #[.int .i64 op, .int .i64 a, .int .i64 b] 27) (.cells #[.slice A ts.length c, .slice F nf d, .int .i64 locals, .int .i64 code] 36)
  have hF := form4_calls op ((w.alloc (.cells #[.int .i64 op, .int .i64 a, .int .i64 b] 27)).alloc (.cells #[.slice A ts.length c, .slice F nf d, .int .i64 locals, .int .i64 code] 36))
  rw [hf] at hF
  have HT := Lib.hid (hT.below hB0)
  clear hT
  have HF := Lib.hid hF
  have HB0 := Lib.hid hB0
  have R1 := Lib.hid hb.1
  have R2 := Lib.hid hb.2
  clear hF hB0 hb hf
  go_enter Tryd.func59, Tryd.ntmps59
  go_wp2_with fail
  refine HF.out.mono ?_
  rintro e w1 ⟨rfl, hb⟩
  obtain ⟨c0, c1, c2⟩ := cells3' ((hb.block _ (Array.getElem?_eq_some_iff.1 R1.out).1).trans R1.out)
  obtain ⟨c3, c4, c5, c6⟩ := cells4' ((hb.block _ (Array.getElem?_eq_some_iff.1 R2.out).1).trans R2.out)
  have HB1 := Lib.hid (below_then HB0.out hb)
  have HC : Hid (∀ W, Below w1.heap.size w1 W → Calls Tryd.prog 62 #[.slice A ts.length c, .int .i64 a] W fun e w' => e = .returned (.int .i64 (kOf (allOf ts) a)) ∧ W = w') := Lib.hid fun W h => kind3_calls A c ts a W ((HT.out.below hb).below h) hr
  have HP : Hid (∀ W, Below w1.heap.size w1 W → Calls Tryd.prog 96 #[.slice A ts.length c, .int .i64 a] W (PartsPost W (partsOf (allOf ts) a))) := Lib.hid fun W h => parts3_calls A c ts a W ((HT.out.below hb).below h) hok hr
  have HKS : Hid (∀ w', Below w1.heap.size w1 w' → (w'.cell? ⟨w.heap.size, 1, none⟩ = some (.int .i64 a) ∧ w'.cell? ⟨w.heap.size, 2, none⟩ = some (.int .i64 b) ∧ w'.cell? ⟨w.heap.size + 1, 0, none⟩ = some (.slice A ts.length c) ∧ w'.cell? ⟨w.heap.size + 1, 1, none⟩ = some (.slice F nf d) ∧ Below w1.heap.size w1 w')) := Lib.hid fun w' h => ⟨cell_below h c1, cell_below h c2, cell_below h c3, cell_below h c4, h⟩
  clear hb HF
  generalize kOf (allOf ts) a = v at *
  generalize partsOf (allOf ts) a = ps at *
  by_cases hv : v = 4
  · subst hv
    rw [show ((4 : Int) == 4) = true from rfl, Bool.true_and]
    go_wp2_with (first | (go_at_call 62; refine (HC.out _ (below_refl _)).mono ?_; rintro e w8 ⟨rfl, rfl⟩) | (go_at_call 95; refine (within4_calls _ _ _).mono ?_; rintro e w8 ⟨rfl, rfl⟩))
    all_goals go_ret
    all_goals exact ⟨by first | rfl | (simp [hvb]; done) | (simp [hv]; done), HB1.out⟩
  · have hvb : (v == 4) = false := beq_eq_false_iff_ne.2 hv
    rw [hvb, Bool.false_and]
    go_wp2_with (first | (go_at_call 62; refine (HC.out _ (below_refl _)).mono ?_; rintro e w8 ⟨rfl, rfl⟩) | (go_at_call 95; refine (within4_calls _ _ _).mono ?_; rintro e w8 ⟨rfl, rfl⟩))
    all_goals go_ret
    all_goals exact ⟨by first | rfl | (simp [hvb]; done) | (simp [hv]; done), HB1.out⟩
end Go.Proofs.YtdilmfnijkjiaaaDoor.K
