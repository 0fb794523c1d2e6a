import Derived.Test.YtdilmfnijkjiaaaDoorK53
import Derived.Test.YtdilmfnijkjiaaaDoorK51
set_option maxRecDepth 100000
set_option linter.unusedSimpArgs false
set_option linter.unusedVariables false
namespace Go.Proofs.YtdilmfnijkjiaaaDoor.K
open Go.RowKit
set_option maxHeartbeats 1000000 in
theorem within4_calls (n hi : Int) (w : World) : Calls Tryd.prog 95 #[.int .i64 n, .int .i64 0, .int .i64 hi] w fun e w' => e = .returned (.bool (belowB n hi)) ∧ w = w' := by
  by_cases h : 0 ≤ n
  · have e : belowB n hi = decide (n < hi) := by unfold belowB; rw [decide_eq_true h]; rfl
    rw [e]
    clear e
    go_enter Tryd.func95, Tryd.ntmps95
    go_wp2
    go_ret
    exact ⟨rfl, rfl⟩
  · have e : belowB n hi = false := by unfold belowB; rw [decide_eq_false h]; rfl
    rw [e]
    have h' : n < 0 := by omega
    clear e
    go_enter Tryd.func95, Tryd.ntmps95
    go_wp2
    go_ret
    exact ⟨rfl, rfl⟩
theorem heap2' (w : World) (o1 o2 : Obj) : ((w.alloc o1).alloc o2).heap[w.heap.size]? = some o1 ∧ ((w.alloc o1).alloc o2).heap[w.heap.size + 1]? = some o2 := by
  have e : (w.alloc o1).heap.size = w.heap.size + 1 := by simp
  refine ⟨(heap_alloc_old _ o2 (by omega)).trans (heap_alloc_new w o1), ?_⟩
  rw [← e]
  exact heap_alloc_new _ o2
theorem cells3' {w : World} {b : Nat} {u v x : Value} {t : TypeId} (h : w.heap[b]? = some (.cells #[u, v, x] t (0, 0))) : w.cell? ⟨b, 0, none⟩ = some u ∧ w.cell? ⟨b, 1, none⟩ = some v ∧ w.cell? ⟨b, 2, none⟩ = some x :=
  ⟨cell_of_row _ _ 0 _ _ _ h, cell_of_row _ _ 1 _ _ _ h, cell_of_row _ _ 2 _ _ _ h⟩
theorem cells4' {w : World} {b : Nat} {u v x y : Value} {t : TypeId} (h : w.heap[b]? = some (.cells #[u, v, x, y] t (0, 0))) : w.cell? ⟨b, 0, none⟩ = some u ∧ w.cell? ⟨b, 1, none⟩ = some v ∧ w.cell? ⟨b, 2, none⟩ = some x ∧ w.cell? ⟨b, 3, none⟩ = some y :=
  ⟨cell_of_row _ _ 0 _ _ _ h, cell_of_row _ _ 1 _ _ _ h, cell_of_row _ _ 2 _ _ _ h, cell_of_row _ _ 3 _ _ _ h⟩
def BoolPost (w : World) (b : Bool) (e : Ending) (w' : World) : Prop := e = .returned (.bool b) ∧ Below w.heap.size w w'
set_option maxHeartbeats 2000000 in
theorem right4_m1 (op a : Int) (A : Option Addr) (n c : Nat) (F : Option Addr) (nf d : Nat) (locals code : Int) (w : World) (hf : (rowOf op).form = (-1)) :
    Calls Tryd.prog 59 #[.agg #[.int .i64 op, .int .i64 a, .int .i64 0], .agg #[.slice A n c, .slice F nf d, .int .i64 locals, .int .i64 code]] w (BoolPost w false) := by
  have hB0 : Below w.heap.size w ((w.alloc (.cells #[.int .i64 op, .int .i64 a, .int .i64 0] 27)).alloc (.cells #[.slice A n c, .slice F nf d, .int .i64 locals, .int .i64 code] 36)) := below_alloc' (below_alloc' (below_refl w))
  have hb := heap2' w (.cells #[.int .i64 op, .int .i64 a, .int .i64 0] 27) (.cells #[.slice A n c, .slice F nf d, .int .i64 locals, .int .i64 code] 36)
  have hF := form4_calls op ((w.alloc (.cells #[.int .i64 op, .int .i64 a, .int .i64 0] 27)).alloc (.cells #[.slice A n c, .slice F nf d, .int .i64 locals, .int .i64 code] 36))
  rw [hf] at hF
  have HF := Lib.hid hF
  have HB0 := Lib.hid hB0
  have R1 := Lib.hid hb.1
  have R2 := Lib.hid hb.2
  clear hF hB0 hb hf
  go_enter Tryd.func59, Tryd.ntmps59
  go_wp2_with fail
  refine HF.out.mono ?_
  rintro e w1 ⟨rfl, hb⟩
  obtain ⟨c0, c1, c2⟩ := cells3' ((hb.block _ (Array.getElem?_eq_some_iff.1 R1.out).1).trans R1.out)
  obtain ⟨c3, c4, c5, c6⟩ := cells4' ((hb.block _ (Array.getElem?_eq_some_iff.1 R2.out).1).trans R2.out)
  have HB1 := Lib.hid (below_then HB0.out hb)
  clear hb HF
  go_wp2_with (first | (go_at_call 95; refine (within4_calls _ _ _).mono ?_; rintro e w' ⟨rfl, rfl⟩))
  all_goals go_ret
  all_goals exact ⟨by first | rfl | (simp [isNum]; done) | (simp [isNum]; intros; omega) | (simp [isNum]; omega), HB1.out⟩
set_option maxHeartbeats 2000000 in
theorem right4_0 (op a : Int) (A : Option Addr) (n c : Nat) (F : Option Addr) (nf d : Nat) (locals code : Int) (w : World) (hf : (rowOf op).form = 0) :
    Calls Tryd.prog 59 #[.agg #[.int .i64 op, .int .i64 a, .int .i64 0], .agg #[.slice A n c, .slice F nf d, .int .i64 locals, .int .i64 code]] w (BoolPost w (a == 0)) := by
  have hB0 : Below w.heap.size w ((w.alloc (.cells #[.int .i64 op, .int .i64 a, .int .i64 0] 27)).alloc (.cells #[.slice A n c, .slice F nf d, .int .i64 locals, .int .i64 code] 36)) := below_alloc' (below_alloc' (below_refl w))
  have hb := heap2' w (.cells #[.int .i64 op, .int .i64 a, .int .i64 0] 27) (.cells #[.slice A n c, .slice F nf d, .int .i64 locals, .int .i64 code] 36)
  have hF := form4_calls op ((w.alloc (.cells #[.int .i64 op, .int .i64 a, .int .i64 0] 27)).alloc (.cells #[.slice A n c, .slice F nf d, .int .i64 locals, .int .i64 code] 36))
  rw [hf] at hF
  have HF := Lib.hid hF
  have HB0 := Lib.hid hB0
  have R1 := Lib.hid hb.1
  have R2 := Lib.hid hb.2
  clear hF hB0 hb hf
  go_enter Tryd.func59, Tryd.ntmps59
  go_wp2_with fail
  refine HF.out.mono ?_
  rintro e w1 ⟨rfl, hb⟩
  obtain ⟨c0, c1, c2⟩ := cells3' ((hb.block _ (Array.getElem?_eq_some_iff.1 R1.out).1).trans R1.out)
  obtain ⟨c3, c4, c5, c6⟩ := cells4' ((hb.block _ (Array.getElem?_eq_some_iff.1 R2.out).1).trans R2.out)
  have HB1 := Lib.hid (below_then HB0.out hb)
  clear hb HF
  go_wp2_with (first | (go_at_call 95; refine (within4_calls _ _ _).mono ?_; rintro e w' ⟨rfl, rfl⟩))
  all_goals go_ret
  all_goals exact ⟨by first | rfl | (simp [isNum]; done) | (simp [isNum]; intros; omega) | (simp [isNum]; omega), HB1.out⟩
set_option maxHeartbeats 2000000 in
theorem right4_1 (op a : Int) (A : Option Addr) (n c : Nat) (F : Option Addr) (nf d : Nat) (locals code : Int) (w : World) (hf : (rowOf op).form = 1) :
    Calls Tryd.prog 59 #[.agg #[.int .i64 op, .int .i64 a, .int .i64 0], .agg #[.slice A n c, .slice F nf d, .int .i64 locals, .int .i64 code]] w (BoolPost w (isNum a)) := by
  have hB0 : Below w.heap.size w ((w.alloc (.cells #[.int .i64 op, .int .i64 a, .int .i64 0] 27)).alloc (.cells #[.slice A n c, .slice F nf d, .int .i64 locals, .int .i64 code] 36)) := below_alloc' (below_alloc' (below_refl w))
  have hb := heap2' w (.cells #[.int .i64 op, .int .i64 a, .int .i64 0] 27) (.cells #[.slice A n c, .slice F nf d, .int .i64 locals, .int .i64 code] 36)
  have hF := form4_calls op ((w.alloc (.cells #[.int .i64 op, .int .i64 a, .int .i64 0] 27)).alloc (.cells #[.slice A n c, .slice F nf d, .int .i64 locals, .int .i64 code] 36))
  rw [hf] at hF
  have HF := Lib.hid hF
  have HB0 := Lib.hid hB0
  have R1 := Lib.hid hb.1
  have R2 := Lib.hid hb.2
  clear hF hB0 hb hf
  go_enter Tryd.func59, Tryd.ntmps59
  go_wp2_with fail
  refine HF.out.mono ?_
  rintro e w1 ⟨rfl, hb⟩
  obtain ⟨c0, c1, c2⟩ := cells3' ((hb.block _ (Array.getElem?_eq_some_iff.1 R1.out).1).trans R1.out)
  obtain ⟨c3, c4, c5, c6⟩ := cells4' ((hb.block _ (Array.getElem?_eq_some_iff.1 R2.out).1).trans R2.out)
  have HB1 := Lib.hid (below_then HB0.out hb)
  clear hb HF
  go_wp2_with (first | (go_at_call 95; refine (within4_calls _ _ _).mono ?_; rintro e w' ⟨rfl, rfl⟩))
  all_goals go_ret
  all_goals exact ⟨by first | rfl | (simp [isNum]; done) | (simp [isNum]; intros; omega) | (simp [isNum]; omega), HB1.out⟩
set_option maxHeartbeats 2000000 in
theorem right4_2 (op a : Int) (A : Option Addr) (n c : Nat) (F : Option Addr) (nf d : Nat) (locals code : Int) (w : World) (hf : (rowOf op).form = 2) :
    Calls Tryd.prog 59 #[.agg #[.int .i64 op, .int .i64 a, .int .i64 0], .agg #[.slice A n c, .slice F nf d, .int .i64 locals, .int .i64 code]] w (BoolPost w (belowB a 2)) := by
  have hB0 : Below w.heap.size w ((w.alloc (.cells #[.int .i64 op, .int .i64 a, .int .i64 0] 27)).alloc (.cells #[.slice A n c, .slice F nf d, .int .i64 locals, .int .i64 code] 36)) := below_alloc' (below_alloc' (below_refl w))
  have hb := heap2' w (.cells #[.int .i64 op, .int .i64 a, .int .i64 0] 27) (.cells #[.slice A n c, .slice F nf d, .int .i64 locals, .int .i64 code] 36)
  have hF := form4_calls op ((w.alloc (.cells #[.int .i64 op, .int .i64 a, .int .i64 0] 27)).alloc (.cells #[.slice A n c, .slice F nf d, .int .i64 locals, .int .i64 code] 36))
  rw [hf] at hF
  have HF := Lib.hid hF
  have HB0 := Lib.hid hB0
  have R1 := Lib.hid hb.1
  have R2 := Lib.hid hb.2
  clear hF hB0 hb hf
  go_enter Tryd.func59, Tryd.ntmps59
  go_wp2_with fail
  refine HF.out.mono ?_
  rintro e w1 ⟨rfl, hb⟩
  obtain ⟨c0, c1, c2⟩ := cells3' ((hb.block _ (Array.getElem?_eq_some_iff.1 R1.out).1).trans R1.out)
  obtain ⟨c3, c4, c5, c6⟩ := cells4' ((hb.block _ (Array.getElem?_eq_some_iff.1 R2.out).1).trans R2.out)
  have HB1 := Lib.hid (below_then HB0.out hb)
  clear hb HF
  go_wp2_with (first | (go_at_call 95; refine (within4_calls _ _ _).mono ?_; rintro e w' ⟨rfl, rfl⟩))
  all_goals go_ret
  all_goals exact ⟨by first | rfl | (simp [isNum]; done) | (simp [isNum]; intros; omega) | (simp [isNum]; omega), HB1.out⟩
set_option maxHeartbeats 2000000 in
theorem right4_3 (op a : Int) (A : Option Addr) (n c : Nat) (F : Option Addr) (nf d : Nat) (locals code : Int) (w : World) (hf : (rowOf op).form = 3) :
    Calls Tryd.prog 59 #[.agg #[.int .i64 op, .int .i64 a, .int .i64 0], .agg #[.slice A n c, .slice F nf d, .int .i64 locals, .int .i64 code]] w (BoolPost w (belowB a locals)) := by
  have hB0 : Below w.heap.size w ((w.alloc (.cells #[.int .i64 op, .int .i64 a, .int .i64 0] 27)).alloc (.cells #[.slice A n c, .slice F nf d, .int .i64 locals, .int .i64 code] 36)) := below_alloc' (below_alloc' (below_refl w))
  have hb := heap2' w (.cells #[.int .i64 op, .int .i64 a, .int .i64 0] 27) (.cells #[.slice A n c, .slice F nf d, .int .i64 locals, .int .i64 code] 36)
  have hF := form4_calls op ((w.alloc (.cells #[.int .i64 op, .int .i64 a, .int .i64 0] 27)).alloc (.cells #[.slice A n c, .slice F nf d, .int .i64 locals, .int .i64 code] 36))
  rw [hf] at hF
  have HF := Lib.hid hF
  have HB0 := Lib.hid hB0
  have R1 := Lib.hid hb.1
  have R2 := Lib.hid hb.2
  clear hF hB0 hb hf
  go_enter Tryd.func59, Tryd.ntmps59
  go_wp2_with fail
  refine HF.out.mono ?_
  rintro e w1 ⟨rfl, hb⟩
  obtain ⟨c0, c1, c2⟩ := cells3' ((hb.block _ (Array.getElem?_eq_some_iff.1 R1.out).1).trans R1.out)
  obtain ⟨c3, c4, c5, c6⟩ := cells4' ((hb.block _ (Array.getElem?_eq_some_iff.1 R2.out).1).trans R2.out)
  have HB1 := Lib.hid (below_then HB0.out hb)
  clear hb HF
  go_wp2_with (first | (go_at_call 95; refine (within4_calls _ _ _).mono ?_; rintro e w' ⟨rfl, rfl⟩))
  all_goals go_ret
  all_goals exact ⟨by first | rfl | (simp [isNum]; done) | (simp [isNum]; intros; omega) | (simp [isNum]; omega), HB1.out⟩
set_option maxHeartbeats 2000000 in
theorem right4_4 (op a : Int) (A : Option Addr) (n c : Nat) (F : Option Addr) (nf d : Nat) (locals code : Int) (w : World) (hf : (rowOf op).form = 4) :
    Calls Tryd.prog 59 #[.agg #[.int .i64 op, .int .i64 a, .int .i64 0], .agg #[.slice A n c, .slice F nf d, .int .i64 locals, .int .i64 code]] w (BoolPost w (belowB a code)) := by
  have hB0 : Below w.heap.size w ((w.alloc (.cells #[.int .i64 op, .int .i64 a, .int .i64 0] 27)).alloc (.cells #[.slice A n c, .slice F nf d, .int .i64 locals, .int .i64 code] 36)) := below_alloc' (below_alloc' (below_refl w))
  have hb := heap2' w (.cells #[.int .i64 op, .int .i64 a, .int .i64 0] 27) (.cells #[.slice A n c, .slice F nf d, .int .i64 locals, .int .i64 code] 36)
  have hF := form4_calls op ((w.alloc (.cells #[.int .i64 op, .int .i64 a, .int .i64 0] 27)).alloc (.cells #[.slice A n c, .slice F nf d, .int .i64 locals, .int .i64 code] 36))
  rw [hf] at hF
  have HF := Lib.hid hF
  have HB0 := Lib.hid hB0
  have R1 := Lib.hid hb.1
  have R2 := Lib.hid hb.2
  clear hF hB0 hb hf
  go_enter Tryd.func59, Tryd.ntmps59
  go_wp2_with fail
  refine HF.out.mono ?_
  rintro e w1 ⟨rfl, hb⟩
  obtain ⟨c0, c1, c2⟩ := cells3' ((hb.block _ (Array.getElem?_eq_some_iff.1 R1.out).1).trans R1.out)
  obtain ⟨c3, c4, c5, c6⟩ := cells4' ((hb.block _ (Array.getElem?_eq_some_iff.1 R2.out).1).trans R2.out)
  have HB1 := Lib.hid (below_then HB0.out hb)
  clear hb HF
  go_wp2_with (first | (go_at_call 95; refine (within4_calls _ _ _).mono ?_; rintro e w' ⟨rfl, rfl⟩))
  all_goals go_ret
  all_goals exact ⟨by first | rfl | (simp [isNum]; done) | (simp [isNum]; intros; omega) | (simp [isNum]; omega), HB1.out⟩
set_option maxHeartbeats 2000000 in
theorem right4_5 (op a : Int) (A : Option Addr) (n c : Nat) (F : Option Addr) (nf d : Nat) (locals code : Int) (w : World) (hf : (rowOf op).form = 5) :
    Calls Tryd.prog 59 #[.agg #[.int .i64 op, .int .i64 a, .int .i64 0], .agg #[.slice A n c, .slice F nf d, .int .i64 locals, .int .i64 code]] w (BoolPost w (belowB a nf)) := by
  have hB0 : Below w.heap.size w ((w.alloc (.cells #[.int .i64 op, .int .i64 a, .int .i64 0] 27)).alloc (.cells #[.slice A n c, .slice F nf d, .int .i64 locals, .int .i64 code] 36)) := below_alloc' (below_alloc' (below_refl w))
  have hb := heap2' w (.cells #[.int .i64 op, .int .i64 a, .int .i64 0] 27) (.cells #[.slice A n c, .slice F nf d, .int .i64 locals, .int .i64 code] 36)
  have hF := form4_calls op ((w.alloc (.cells #[.int .i64 op, .int .i64 a, .int .i64 0] 27)).alloc (.cells #[.slice A n c, .slice F nf d, .int .i64 locals, .int .i64 code] 36))
  rw [hf] at hF
  have HF := Lib.hid hF
  have HB0 := Lib.hid hB0
  have R1 := Lib.hid hb.1
  have R2 := Lib.hid hb.2
  clear hF hB0 hb hf
  go_enter Tryd.func59, Tryd.ntmps59
  go_wp2_with fail
  refine HF.out.mono ?_
  rintro e w1 ⟨rfl, hb⟩
  obtain ⟨c0, c1, c2⟩ := cells3' ((hb.block _ (Array.getElem?_eq_some_iff.1 R1.out).1).trans R1.out)
  obtain ⟨c3, c4, c5, c6⟩ := cells4' ((hb.block _ (Array.getElem?_eq_some_iff.1 R2.out).1).trans R2.out)
  have HB1 := Lib.hid (below_then HB0.out hb)
  clear hb HF
  go_wp2_with (first | (go_at_call 95; refine (within4_calls _ _ _).mono ?_; rintro e w' ⟨rfl, rfl⟩))
  all_goals go_ret
  all_goals exact ⟨by first | rfl | (simp [isNum]; done) | (simp [isNum]; intros; omega) | (simp [isNum]; omega), HB1.out⟩
set_option maxHeartbeats 2000000 in
theorem right4_9 (op a : Int) (A : Option Addr) (n c : Nat) (F : Option Addr) (nf d : Nat) (locals code : Int) (w : World) (hf : (rowOf op).form = 9) :
    Calls Tryd.prog 59 #[.agg #[.int .i64 op, .int .i64 a, .int .i64 0], .agg #[.slice A n c, .slice F nf d, .int .i64 locals, .int .i64 code]] w (BoolPost w (belowB a 256)) := by
  have hB0 : Below w.heap.size w ((w.alloc (.cells #[.int .i64 op, .int .i64 a, .int .i64 0] 27)).alloc (.cells #[.slice A n c, .slice F nf d, .int .i64 locals, .int .i64 code] 36)) := below_alloc' (below_alloc' (below_refl w))
  have hb := heap2' w (.cells #[.int .i64 op, .int .i64 a, .int .i64 0] 27) (.cells #[.slice A n c, .slice F nf d, .int .i64 locals, .int .i64 code] 36)
  have hF := form4_calls op ((w.alloc (.cells #[.int .i64 op, .int .i64 a, .int .i64 0] 27)).alloc (.cells #[.slice A n c, .slice F nf d, .int .i64 locals, .int .i64 code] 36))
  rw [hf] at hF
  have HF := Lib.hid hF
  have HB0 := Lib.hid hB0
  have R1 := Lib.hid hb.1
  have R2 := Lib.hid hb.2
  clear hF hB0 hb hf
  go_enter Tryd.func59, Tryd.ntmps59
  go_wp2_with fail
  refine HF.out.mono ?_
  rintro e w1 ⟨rfl, hb⟩
  obtain ⟨c0, c1, c2⟩ := cells3' ((hb.block _ (Array.getElem?_eq_some_iff.1 R1.out).1).trans R1.out)
  obtain ⟨c3, c4, c5, c6⟩ := cells4' ((hb.block _ (Array.getElem?_eq_some_iff.1 R2.out).1).trans R2.out)
  have HB1 := Lib.hid (below_then HB0.out hb)
  clear hb HF
  go_wp2_with (first | (go_at_call 95; refine (within4_calls _ _ _).mono ?_; rintro e w' ⟨rfl, rfl⟩))
  all_goals go_ret
  all_goals exact ⟨by first | rfl | (simp [isNum]; done) | (simp [isNum]; intros; omega) | (simp [isNum]; omega), HB1.out⟩
end Go.Proofs.YtdilmfnijkjiaaaDoor.K
