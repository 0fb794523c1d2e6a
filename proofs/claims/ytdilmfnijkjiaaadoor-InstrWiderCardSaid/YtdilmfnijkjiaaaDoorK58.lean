import Derived.Test.YtdilmfnijkjiaaaDoorK55
import Derived.Test.YtdilmfnijkjiaaaDoorK57
set_option maxRecDepth 100000
set_option linter.unusedSimpArgs false
set_option linter.unusedVariables false
namespace Go.Proofs.YtdilmfnijkjiaaaDoor.K
open Go.RowKit
set_option maxHeartbeats 2000000 in
theorem right4_7 (op a b : Int) (A : Option Addr) (c : Nat) (ts : List Ty) (F : Option Addr) (nf d : Nat) (locals code : Int) (w : World) (hf : (rowOf op).form = 7) (hT : TySl w A c ts) (hok : tysOk ts) (hr : a ≤ 9223372036854775807) :
    Calls Tryd.prog 59 #[.agg #[.int .i64 op, .int .i64 a, .int .i64 b], .agg #[.slice A ts.length c, .slice F nf d, .int .i64 locals, .int .i64 code]] w (BoolPost w ((kOf (allOf ts) a == 2) && belowB b (partsOf (allOf ts) a).length)) := by
  have hB0 : Below w.heap.size w ((w.alloc (.cells #[.int .i64 op, .int .i64 a, .int .i64 b] 27)).alloc (.cells #[.slice A ts.length c, .slice F nf d, .int .i64 locals, .int .i64 code] 36)) := below_alloc' (below_alloc' (below_refl w))
  have hb := heap2' w (.cells #[.int .i64 op, .int .i64 a, .int .i64 b] 27) (.cells #[.slice A ts.length c, .slice F nf d, .int .i64 locals, .int .i64 code] 36)
  have hF := form4_calls op ((w.alloc (.cells #[.int .i64 op, .int .i64 a, .int .i64 b] 27)).alloc (.cells #[.slice A ts.length c, .slice F nf d, .int .i64 locals, .int .i64 code] 36))
  rw [hf] at hF
  have HT := Lib.hid (hT.below hB0)
  clear hT
  have HF := Lib.hid hF
  have HB0 := Lib.hid hB0
  have R1 := Lib.hid hb.1
  have R2 := Lib.hid hb.2
  clear hF hB0 hb hf
  go_enter Tryd.func59, Tryd.ntmps59
  go_wp2_with fail
  refine HF.out.mono ?_
  rintro e w1 ⟨rfl, hb⟩
  obtain ⟨c0, c1, c2⟩ := cells3' ((hb.block _ (Array.getElem?_eq_some_iff.1 R1.out).1).trans R1.out)
  obtain ⟨c3, c4, c5, c6⟩ := cells4' ((hb.block _ (Array.getElem?_eq_some_iff.1 R2.out).1).trans R2.out)
  have HB1 := Lib.hid (below_then HB0.out hb)
  have HC : Hid (∀ W, Below w1.heap.size w1 W → Calls Tryd.prog 62 #[.slice A ts.length c, .int .i64 a] W fun e w' => e = .returned (.int .i64 (kOf (allOf ts) a)) ∧ W = w') := Lib.hid fun W h => kind3_calls A c ts a W ((HT.out.below hb).below h) hr
  obtain ⟨B, q, _, hP⟩ := parts3_named A c ts a w1 (HT.out.below hb) hok hr
  have HP := Lib.hid hP
  clear hP
  clear hb HF
  generalize kOf (allOf ts) a = v at *
  generalize partsOf (allOf ts) a = ps at *
  by_cases hv : v = 2
  · subst hv
    rw [show ((2 : Int) == 2) = true from rfl, Bool.true_and]
    go_wp2_with fail
    go_quiet ((first | (go_at_call 62; exact (HC.out _ (below_drewN' (below_refl _))).mono fun _ _ h => ⟨h.1, ⟨_, h.2.symm⟩⟩) | (go_at_call 96; exact (HP.out _ (below_drewN' (below_refl _))).mono fun _ _ h => ⟨h.1, ⟨_, h.2.symm⟩⟩) | (go_at_call 95; exact (within4_calls _ _ _).mono fun _ _ h => ⟨h.1, ⟨_, h.2.symm⟩⟩)))
    go_wp2_with fail
    all_goals go_ret
    all_goals exact ⟨rfl, below_drewN' HB1.out⟩
  · have hvb : (v == 2) = false := beq_eq_false_iff_ne.2 hv
    rw [hvb, Bool.false_and]
    go_wp2_with fail
    go_quiet ((first | (go_at_call 62; exact (HC.out _ (below_drewN' (below_refl _))).mono fun _ _ h => ⟨h.1, ⟨_, h.2.symm⟩⟩) | (go_at_call 96; exact (HP.out _ (below_drewN' (below_refl _))).mono fun _ _ h => ⟨h.1, ⟨_, h.2.symm⟩⟩) | (go_at_call 95; exact (within4_calls _ _ _).mono fun _ _ h => ⟨h.1, ⟨_, h.2.symm⟩⟩)))
    go_wp2_with fail
    all_goals go_ret
    all_goals exact ⟨by first | rfl | (simp [hvb]; done) | (simp [hv]; done), below_drewN' HB1.out⟩
end Go.Proofs.YtdilmfnijkjiaaaDoor.K
