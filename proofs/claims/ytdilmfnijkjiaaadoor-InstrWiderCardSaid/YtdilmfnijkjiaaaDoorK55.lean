import Derived.Test.YtdilmfnijkjiaaaDoorK54
set_option maxRecDepth 100000
set_option linter.unusedSimpArgs false
set_option linter.unusedVariables false
namespace Go.Proofs.YtdilmfnijkjiaaaDoor.K
open Go.RowKit
set_option maxHeartbeats 2000000 in
theorem right4_bad (op a b : Int) (A : Option Addr) (c : Nat) (ts : List Ty) (F : Option Addr) (nf d : Nat) (locals code : Int) (w : World) (fm : Int) (hf : (rowOf op).form = fm) (h7 : fm ≠ 7) (h8 : fm ≠ 8) (hb0 : b ≠ 0) :
    Calls Tryd.prog 59 #[.agg #[.int .i64 op, .int .i64 a, .int .i64 b], .agg #[.slice A ts.length c, .slice F nf d, .int .i64 locals, .int .i64 code]] w (BoolPost w false) := by
  have hB0 : Below w.heap.size w ((w.alloc (.cells #[.int .i64 op, .int .i64 a, .int .i64 b] 27)).alloc (.cells #[.slice A ts.length c, .slice F nf d, .int .i64 locals, .int .i64 code] 36)) := below_alloc' (below_alloc' (below_refl w))
  have hb := heap2' w (.cells #[.int .i64 op, .int .i64 a, .int .i64 b] 27) (.cells #[.slice A ts.length c, .slice F nf d, .int .i64 locals, .int .i64 code] 36)
  have hF := form4_calls op ((w.alloc (.cells #[.int .i64 op, .int .i64 a, .int .i64 b] 27)).alloc (.cells #[.slice A ts.length c, .slice F nf d, .int .i64 locals, .int .i64 code] 36))
  rw [hf] at hF
  have e7 : (fm != 7) = true := bne_iff_ne.2 h7
  have e8 : (fm != 8) = true := bne_iff_ne.2 h8
  have eb : (b != 0) = true := bne_iff_ne.2 hb0
  clear h7 h8 hb0
  have HF := Lib.hid hF
  have HB0 := Lib.hid hB0
  have R1 := Lib.hid hb.1
  have R2 := Lib.hid hb.2
  clear hF hB0 hb hf
  go_enter Tryd.func59, Tryd.ntmps59
  go_wp2_with fail
  refine HF.out.mono ?_
  rintro e w1 ⟨rfl, hb⟩
  obtain ⟨c0, c1, c2⟩ := cells3' ((hb.block _ (Array.getElem?_eq_some_iff.1 R1.out).1).trans R1.out)
  obtain ⟨c3, c4, c5, c6⟩ := cells4' ((hb.block _ (Array.getElem?_eq_some_iff.1 R2.out).1).trans R2.out)
  have HB1 := Lib.hid (below_then HB0.out hb)
  clear hb HF
  go_wp2_with fail
  go_ret
  exact ⟨rfl, HB1.out⟩
set_option maxHeartbeats 2000000 in
theorem right4_6 (op a b : Int) (A : Option Addr) (c : Nat) (ts : List Ty) (F : Option Addr) (nf d : Nat) (locals code : Int) (w : World) (hf : (rowOf op).form = 6) (hb0 : b = 0) (hT : TySl w A c ts) (hr : a ≤ 9223372036854775807) :
    Calls Tryd.prog 59 #[.agg #[.int .i64 op, .int .i64 a, .int .i64 b], .agg #[.slice A ts.length c, .slice F nf d, .int .i64 locals, .int .i64 code]] w (BoolPost w (kOf (allOf ts) a == (rowOf op).kind)) := by
  have hB0 : Below w.heap.size w ((w.alloc (.cells #[.int .i64 op, .int .i64 a, .int .i64 b] 27)).alloc (.cells #[.slice A ts.length c, .slice F nf d, .int .i64 locals, .int .i64 code] 36)) := below_alloc' (below_alloc' (below_refl w))
  have hb := heap2' w (.cells #[.int .i64 op, .int .i64 a, .int .i64 b] 27) (.cells #[.slice A ts.length c, .slice F nf d, .int .i64 locals, .int .i64 code] 36)
  have hF := form4_calls op ((w.alloc (.cells #[.int .i64 op, .int .i64 a, .int .i64 b] 27)).alloc (.cells #[.slice A ts.length c, .slice F nf d, .int .i64 locals, .int .i64 code] 36))
  rw [hf] at hF
  subst hb0
  have HT := Lib.hid (hT.below hB0)
  have HK := Lib.hid (fun w => kind4_calls op w)
  generalize (rowOf op).kind = kd at *
  clear hT
  have HF := Lib.hid hF
  have HB0 := Lib.hid hB0
  have R1 := Lib.hid hb.1
  have R2 := Lib.hid hb.2
  clear hF hB0 hb hf
  go_enter Tryd.func59, Tryd.ntmps59
  go_wp2_with fail
  refine HF.out.mono ?_
  rintro e w1 ⟨rfl, hb⟩
  obtain ⟨c0, c1, c2⟩ := cells3' ((hb.block _ (Array.getElem?_eq_some_iff.1 R1.out).1).trans R1.out)
  obtain ⟨c3, c4, c5, c6⟩ := cells4' ((hb.block _ (Array.getElem?_eq_some_iff.1 R2.out).1).trans R2.out)
  have HB1 := Lib.hid (below_then HB0.out hb)
  have HC : Hid (∀ W, Below w1.heap.size w1 W → Calls Tryd.prog 62 #[.slice A ts.length c, .int .i64 a] W fun e w' => e = .returned (.int .i64 (kOf (allOf ts) a)) ∧ W = w') := Lib.hid fun W h => kind3_calls A c ts a W ((HT.out.below hb).below h) hr
  have HKS : Hid (∀ w', Below w1.heap.size w1 w' → (w'.cell? ⟨w.heap.size, 0, none⟩ = some (.int .i64 op) ∧ w'.cell? ⟨w.heap.size, 1, none⟩ = some (.int .i64 a) ∧ w'.cell? ⟨w.heap.size + 1, 0, none⟩ = some (.slice A ts.length c) ∧ Below w1.heap.size w1 w')) := Lib.hid fun w' h => ⟨cell_below h c0, cell_below h c1, cell_below h c3, h⟩
  clear hb HF
  generalize kOf (allOf ts) a = v at *
  go_wp2_with fail
  go_region_held3 (fun w' => w'.cell? ⟨w.heap.size, 0, none⟩ = some (.int .i64 op) ∧ w'.cell? ⟨w.heap.size, 1, none⟩ = some (.int .i64 a) ∧ w'.cell? ⟨w.heap.size + 1, 0, none⟩ = some (.slice A ts.length c) ∧ Below w1.heap.size w1 w')
    (first
      | exact HKS.out _ (below_refl _)
      | exact HKS.out _ (below_drew' (below_refl _))
      | (go_split_ands; exact HKS.out _ (by assumption))
      | (go_split_ands; exact HKS.out _ (below_then (by assumption) (by assumption)))
      | (go_keep; done))
    (first
      | (go_at_call 62; go_split_ands; refine (HC.out _ (by assumption)).mono ?_; rintro e w8 ⟨rfl, rfl⟩)
      | (go_at_call 52; go_split_ands; refine (HK.out _).mono ?_; rintro e w9 ⟨rfl, hb9⟩))
  all_goals
    have hcur : Below w1.heap.size w1 w9 := by first | assumption | exact below_then (by assumption) hb9
    have HBZ := Lib.hid (below_then HB1.out hcur)
    clear hcur
    go_wp2_with fail
    go_ret
    exact ⟨rfl, HBZ.out⟩
end Go.Proofs.YtdilmfnijkjiaaaDoor.K
