import Derived.Test.YtdilmfnijkjiaaaDoorK59
set_option maxRecDepth 100000
set_option linter.unusedSimpArgs false
set_option linter.unusedVariables false
namespace Go.Proofs.YtdilmfnijkjiaaaDoor.K
open Go.RowKit
def PairPost (w : World) (n m : Int) (e : Ending) (w' : World) : Prop := e = .returned (.tuple #[.int .i64 n, .int .i64 m]) ∧ Below w.heap.size w w'
set_option maxHeartbeats 2000000 in
theorem effect4_0 (a b : Int) (A : Option Addr) (c : Nat) (ts : List Ty) (F : Option Addr) (nf d : Nat) (locals code : Int) (w : World) (hT : TySl w A c ts) (hok : tysOk ts) (hr : a ≤ 9223372036854775807) (hright : rightR (rowOf 0) (allOf ts) nf locals code a b = true) :
    Calls Tryd.prog 60 #[.agg #[.int .i64 0, .int .i64 a, .int .i64 b], .agg #[.slice A ts.length c, .slice F nf d, .int .i64 locals, .int .i64 code]] w (PairPost w 0 0) := by
  have hB0 : Below w.heap.size w ((w.alloc (.cells #[.int .i64 0, .int .i64 a, .int .i64 b] 27)).alloc (.cells #[.slice A ts.length c, .slice F nf d, .int .i64 locals, .int .i64 code] 36)) := below_alloc' (below_alloc' (below_refl w))
  have hb := heap2' w (.cells #[.int .i64 0, .int .i64 a, .int .i64 b] 27) (.cells #[.slice A ts.length c, .slice F nf d, .int .i64 locals, .int .i64 code] 36)
  have hR := right4_calls 0 a b A c ts F nf d locals code _ (hT.below hB0) hok hr
  rw [hright] at hR
  have HN := Lib.hid (fun w => (show Calls Tryd.prog 49 #[.int .i64 0] w fun e w' => e = .returned (.string ⟨#[110, 111, 112]⟩) ∧ Below w.heap.size w w' from name4_calls 0 w))
  have HR := Lib.hid hR
  have HB0 := Lib.hid hB0
  obtain ⟨c0, c1, c2⟩ := cells3' hb.1
  obtain ⟨c3, c4, c5, c6⟩ := cells4' hb.2
  have R1 := Lib.hid hb.1
  clear hR hB0 hb hright hT hok hr
  go_enter Tryd.func60, Tryd.ntmps60
  go_wp2_with fail
  refine HR.out.mono ?_
  rintro e w1 ⟨rfl, hb⟩
  obtain ⟨d0, d1, d2⟩ := cells3' ((hb.block _ (Array.getElem?_eq_some_iff.1 R1.out).1).trans R1.out)
  have HB1 := Lib.hid (below_then HB0.out hb)
  clear hb HR c0 c1 c2 c3 c4 c5 c6
  go_wp2_with fail
  refine (HN.out _).mono ?_
  rintro e w2 ⟨rfl, hb⟩
  have HB2 := Lib.hid (below_then HB1.out hb)
  clear hb HN d0 d1 d2
  go_wp2_with fail
  go_ret2
  exact ⟨rfl, HB2.out⟩
set_option maxHeartbeats 2000000 in
theorem effect4_1 (a b : Int) (A : Option Addr) (c : Nat) (ts : List Ty) (F : Option Addr) (nf d : Nat) (locals code : Int) (w : World) (hT : TySl w A c ts) (hok : tysOk ts) (hr : a ≤ 9223372036854775807) (hright : rightR (rowOf 1) (allOf ts) nf locals code a b = true) :
    Calls Tryd.prog 60 #[.agg #[.int .i64 1, .int .i64 a, .int .i64 b], .agg #[.slice A ts.length c, .slice F nf d, .int .i64 locals, .int .i64 code]] w (PairPost w 0 1) := by
  have hB0 : Below w.heap.size w ((w.alloc (.cells #[.int .i64 1, .int .i64 a, .int .i64 b] 27)).alloc (.cells #[.slice A ts.length c, .slice F nf d, .int .i64 locals, .int .i64 code] 36)) := below_alloc' (below_alloc' (below_refl w))
  have hb := heap2' w (.cells #[.int .i64 1, .int .i64 a, .int .i64 b] 27) (.cells #[.slice A ts.length c, .slice F nf d, .int .i64 locals, .int .i64 code] 36)
  have hR := right4_calls 1 a b A c ts F nf d locals code _ (hT.below hB0) hok hr
  rw [hright] at hR
  have HN := Lib.hid (fun w => (show Calls Tryd.prog 49 #[.int .i64 1] w fun e w' => e = .returned (.string ⟨#[105, 110, 116]⟩) ∧ Below w.heap.size w w' from name4_calls 1 w))
  have HR := Lib.hid hR
  have HB0 := Lib.hid hB0
  obtain ⟨c0, c1, c2⟩ := cells3' hb.1
  obtain ⟨c3, c4, c5, c6⟩ := cells4' hb.2
  have R1 := Lib.hid hb.1
  clear hR hB0 hb hright hT hok hr
  go_enter Tryd.func60, Tryd.ntmps60
  go_wp2_with fail
  refine HR.out.mono ?_
  rintro e w1 ⟨rfl, hb⟩
  obtain ⟨d0, d1, d2⟩ := cells3' ((hb.block _ (Array.getElem?_eq_some_iff.1 R1.out).1).trans R1.out)
  have HB1 := Lib.hid (below_then HB0.out hb)
  clear hb HR c0 c1 c2 c3 c4 c5 c6
  go_wp2_with fail
  refine (HN.out _).mono ?_
  rintro e w2 ⟨rfl, hb⟩
  have HB2 := Lib.hid (below_then HB1.out hb)
  clear hb HN d0 d1 d2
  go_wp2_with fail
  go_ret2
  exact ⟨rfl, HB2.out⟩
set_option maxHeartbeats 2000000 in
theorem effect4_2 (a b : Int) (A : Option Addr) (c : Nat) (ts : List Ty) (F : Option Addr) (nf d : Nat) (locals code : Int) (w : World) (hT : TySl w A c ts) (hok : tysOk ts) (hr : a ≤ 9223372036854775807) (hright : rightR (rowOf 2) (allOf ts) nf locals code a b = true) :
    Calls Tryd.prog 60 #[.agg #[.int .i64 2, .int .i64 a, .int .i64 b], .agg #[.slice A ts.length c, .slice F nf d, .int .i64 locals, .int .i64 code]] w (PairPost w 0 1) := by
  have hB0 : Below w.heap.size w ((w.alloc (.cells #[.int .i64 2, .int .i64 a, .int .i64 b] 27)).alloc (.cells #[.slice A ts.length c, .slice F nf d, .int .i64 locals, .int .i64 code] 36)) := below_alloc' (below_alloc' (below_refl w))
  have hb := heap2' w (.cells #[.int .i64 2, .int .i64 a, .int .i64 b] 27) (.cells #[.slice A ts.length c, .slice F nf d, .int .i64 locals, .int .i64 code] 36)
  have hR := right4_calls 2 a b A c ts F nf d locals code _ (hT.below hB0) hok hr
  rw [hright] at hR
  have HN := Lib.hid (fun w => (show Calls Tryd.prog 49 #[.int .i64 2] w fun e w' => e = .returned (.string ⟨#[98, 111, 111, 108]⟩) ∧ Below w.heap.size w w' from name4_calls 2 w))
  have HR := Lib.hid hR
  have HB0 := Lib.hid hB0
  obtain ⟨c0, c1, c2⟩ := cells3' hb.1
  obtain ⟨c3, c4, c5, c6⟩ := cells4' hb.2
  have R1 := Lib.hid hb.1
  clear hR hB0 hb hright hT hok hr
  go_enter Tryd.func60, Tryd.ntmps60
  go_wp2_with fail
  refine HR.out.mono ?_
  rintro e w1 ⟨rfl, hb⟩
  obtain ⟨d0, d1, d2⟩ := cells3' ((hb.block _ (Array.getElem?_eq_some_iff.1 R1.out).1).trans R1.out)
  have HB1 := Lib.hid (below_then HB0.out hb)
  clear hb HR c0 c1 c2 c3 c4 c5 c6
  go_wp2_with fail
  refine (HN.out _).mono ?_
  rintro e w2 ⟨rfl, hb⟩
  have HB2 := Lib.hid (below_then HB1.out hb)
  clear hb HN d0 d1 d2
  go_wp2_with fail
  go_ret2
  exact ⟨rfl, HB2.out⟩
set_option maxHeartbeats 2000000 in
theorem effect4_3 (a b : Int) (A : Option Addr) (c : Nat) (ts : List Ty) (F : Option Addr) (nf d : Nat) (locals code : Int) (w : World) (hT : TySl w A c ts) (hok : tysOk ts) (hr : a ≤ 9223372036854775807) (hright : rightR (rowOf 3) (allOf ts) nf locals code a b = true) :
    Calls Tryd.prog 60 #[.agg #[.int .i64 3, .int .i64 a, .int .i64 b], .agg #[.slice A ts.length c, .slice F nf d, .int .i64 locals, .int .i64 code]] w (PairPost w 0 1) := by
  have hB0 : Below w.heap.size w ((w.alloc (.cells #[.int .i64 3, .int .i64 a, .int .i64 b] 27)).alloc (.cells #[.slice A ts.length c, .slice F nf d, .int .i64 locals, .int .i64 code] 36)) := below_alloc' (below_alloc' (below_refl w))
  have hb := heap2' w (.cells #[.int .i64 3, .int .i64 a, .int .i64 b] 27) (.cells #[.slice A ts.length c, .slice F nf d, .int .i64 locals, .int .i64 code] 36)
  have hR := right4_calls 3 a b A c ts F nf d locals code _ (hT.below hB0) hok hr
  rw [hright] at hR
  have HN := Lib.hid (fun w => (show Calls Tryd.prog 49 #[.int .i64 3] w fun e w' => e = .returned (.string ⟨#[103, 101, 116]⟩) ∧ Below w.heap.size w w' from name4_calls 3 w))
  have HR := Lib.hid hR
  have HB0 := Lib.hid hB0
  obtain ⟨c0, c1, c2⟩ := cells3' hb.1
  obtain ⟨c3, c4, c5, c6⟩ := cells4' hb.2
  have R1 := Lib.hid hb.1
  clear hR hB0 hb hright hT hok hr
  go_enter Tryd.func60, Tryd.ntmps60
  go_wp2_with fail
  refine HR.out.mono ?_
  rintro e w1 ⟨rfl, hb⟩
  obtain ⟨d0, d1, d2⟩ := cells3' ((hb.block _ (Array.getElem?_eq_some_iff.1 R1.out).1).trans R1.out)
  have HB1 := Lib.hid (below_then HB0.out hb)
  clear hb HR c0 c1 c2 c3 c4 c5 c6
  go_wp2_with fail
  refine (HN.out _).mono ?_
  rintro e w2 ⟨rfl, hb⟩
  have HB2 := Lib.hid (below_then HB1.out hb)
  clear hb HN d0 d1 d2
  go_wp2_with fail
  go_ret2
  exact ⟨rfl, HB2.out⟩
set_option maxHeartbeats 2000000 in
theorem effect4_4 (a b : Int) (A : Option Addr) (c : Nat) (ts : List Ty) (F : Option Addr) (nf d : Nat) (locals code : Int) (w : World) (hT : TySl w A c ts) (hok : tysOk ts) (hr : a ≤ 9223372036854775807) (hright : rightR (rowOf 4) (allOf ts) nf locals code a b = true) :
    Calls Tryd.prog 60 #[.agg #[.int .i64 4, .int .i64 a, .int .i64 b], .agg #[.slice A ts.length c, .slice F nf d, .int .i64 locals, .int .i64 code]] w (PairPost w 1 0) := by
  have hB0 : Below w.heap.size w ((w.alloc (.cells #[.int .i64 4, .int .i64 a, .int .i64 b] 27)).alloc (.cells #[.slice A ts.length c, .slice F nf d, .int .i64 locals, .int .i64 code] 36)) := below_alloc' (below_alloc' (below_refl w))
  have hb := heap2' w (.cells #[.int .i64 4, .int .i64 a, .int .i64 b] 27) (.cells #[.slice A ts.length c, .slice F nf d, .int .i64 locals, .int .i64 code] 36)
  have hR := right4_calls 4 a b A c ts F nf d locals code _ (hT.below hB0) hok hr
  rw [hright] at hR
  have HN := Lib.hid (fun w => (show Calls Tryd.prog 49 #[.int .i64 4] w fun e w' => e = .returned (.string ⟨#[115, 101, 116]⟩) ∧ Below w.heap.size w w' from name4_calls 4 w))
  have HR := Lib.hid hR
  have HB0 := Lib.hid hB0
  obtain ⟨c0, c1, c2⟩ := cells3' hb.1
  obtain ⟨c3, c4, c5, c6⟩ := cells4' hb.2
  have R1 := Lib.hid hb.1
  clear hR hB0 hb hright hT hok hr
  go_enter Tryd.func60, Tryd.ntmps60
  go_wp2_with fail
  refine HR.out.mono ?_
  rintro e w1 ⟨rfl, hb⟩
  obtain ⟨d0, d1, d2⟩ := cells3' ((hb.block _ (Array.getElem?_eq_some_iff.1 R1.out).1).trans R1.out)
  have HB1 := Lib.hid (below_then HB0.out hb)
  clear hb HR c0 c1 c2 c3 c4 c5 c6
  go_wp2_with fail
  refine (HN.out _).mono ?_
  rintro e w2 ⟨rfl, hb⟩
  have HB2 := Lib.hid (below_then HB1.out hb)
  clear hb HN d0 d1 d2
  go_wp2_with fail
  go_ret2
  exact ⟨rfl, HB2.out⟩
set_option maxHeartbeats 2000000 in
theorem effect4_5 (a b : Int) (A : Option Addr) (c : Nat) (ts : List Ty) (F : Option Addr) (nf d : Nat) (locals code : Int) (w : World) (hT : TySl w A c ts) (hok : tysOk ts) (hr : a ≤ 9223372036854775807) (hright : rightR (rowOf 5) (allOf ts) nf locals code a b = true) :
    Calls Tryd.prog 60 #[.agg #[.int .i64 5, .int .i64 a, .int .i64 b], .agg #[.slice A ts.length c, .slice F nf d, .int .i64 locals, .int .i64 code]] w (PairPost w 1 0) := by
  have hB0 : Below w.heap.size w ((w.alloc (.cells #[.int .i64 5, .int .i64 a, .int .i64 b] 27)).alloc (.cells #[.slice A ts.length c, .slice F nf d, .int .i64 locals, .int .i64 code] 36)) := below_alloc' (below_alloc' (below_refl w))
  have hb := heap2' w (.cells #[.int .i64 5, .int .i64 a, .int .i64 b] 27) (.cells #[.slice A ts.length c, .slice F nf d, .int .i64 locals, .int .i64 code] 36)
  have hR := right4_calls 5 a b A c ts F nf d locals code _ (hT.below hB0) hok hr
  rw [hright] at hR
  have HN := Lib.hid (fun w => (show Calls Tryd.prog 49 #[.int .i64 5] w fun e w' => e = .returned (.string ⟨#[100, 114, 111, 112]⟩) ∧ Below w.heap.size w w' from name4_calls 5 w))
  have HR := Lib.hid hR
  have HB0 := Lib.hid hB0
  obtain ⟨c0, c1, c2⟩ := cells3' hb.1
  obtain ⟨c3, c4, c5, c6⟩ := cells4' hb.2
  have R1 := Lib.hid hb.1
  clear hR hB0 hb hright hT hok hr
  go_enter Tryd.func60, Tryd.ntmps60
  go_wp2_with fail
  refine HR.out.mono ?_
  rintro e w1 ⟨rfl, hb⟩
  obtain ⟨d0, d1, d2⟩ := cells3' ((hb.block _ (Array.getElem?_eq_some_iff.1 R1.out).1).trans R1.out)
  have HB1 := Lib.hid (below_then HB0.out hb)
  clear hb HR c0 c1 c2 c3 c4 c5 c6
  go_wp2_with fail
  refine (HN.out _).mono ?_
  rintro e w2 ⟨rfl, hb⟩
  have HB2 := Lib.hid (below_then HB1.out hb)
  clear hb HN d0 d1 d2
  go_wp2_with fail
  go_ret2
  exact ⟨rfl, HB2.out⟩
set_option maxHeartbeats 2000000 in
theorem effect4_6 (a b : Int) (A : Option Addr) (c : Nat) (ts : List Ty) (F : Option Addr) (nf d : Nat) (locals code : Int) (w : World) (hT : TySl w A c ts) (hok : tysOk ts) (hr : a ≤ 9223372036854775807) (hright : rightR (rowOf 6) (allOf ts) nf locals code a b = true) :
    Calls Tryd.prog 60 #[.agg #[.int .i64 6, .int .i64 a, .int .i64 b], .agg #[.slice A ts.length c, .slice F nf d, .int .i64 locals, .int .i64 code]] w (PairPost w 1 2) := by
  have hB0 : Below w.heap.size w ((w.alloc (.cells #[.int .i64 6, .int .i64 a, .int .i64 b] 27)).alloc (.cells #[.slice A ts.length c, .slice F nf d, .int .i64 locals, .int .i64 code] 36)) := below_alloc' (below_alloc' (below_refl w))
  have hb := heap2' w (.cells #[.int .i64 6, .int .i64 a, .int .i64 b] 27) (.cells #[.slice A ts.length c, .slice F nf d, .int .i64 locals, .int .i64 code] 36)
  have hR := right4_calls 6 a b A c ts F nf d locals code _ (hT.below hB0) hok hr
  rw [hright] at hR
  have HN := Lib.hid (fun w => (show Calls Tryd.prog 49 #[.int .i64 6] w fun e w' => e = .returned (.string ⟨#[100, 117, 112]⟩) ∧ Below w.heap.size w w' from name4_calls 6 w))
  have HR := Lib.hid hR
  have HB0 := Lib.hid hB0
  obtain ⟨c0, c1, c2⟩ := cells3' hb.1
  obtain ⟨c3, c4, c5, c6⟩ := cells4' hb.2
  have R1 := Lib.hid hb.1
  clear hR hB0 hb hright hT hok hr
  go_enter Tryd.func60, Tryd.ntmps60
  go_wp2_with fail
  refine HR.out.mono ?_
  rintro e w1 ⟨rfl, hb⟩
  obtain ⟨d0, d1, d2⟩ := cells3' ((hb.block _ (Array.getElem?_eq_some_iff.1 R1.out).1).trans R1.out)
  have HB1 := Lib.hid (below_then HB0.out hb)
  clear hb HR c0 c1 c2 c3 c4 c5 c6
  go_wp2_with fail
  refine (HN.out _).mono ?_
  rintro e w2 ⟨rfl, hb⟩
  have HB2 := Lib.hid (below_then HB1.out hb)
  clear hb HN d0 d1 d2
  go_wp2_with fail
  go_ret2
  exact ⟨rfl, HB2.out⟩
set_option maxHeartbeats 2000000 in
theorem effect4_7 (a b : Int) (A : Option Addr) (c : Nat) (ts : List Ty) (F : Option Addr) (nf d : Nat) (locals code : Int) (w : World) (hT : TySl w A c ts) (hok : tysOk ts) (hr : a ≤ 9223372036854775807) (hright : rightR (rowOf 7) (allOf ts) nf locals code a b = true) :
    Calls Tryd.prog 60 #[.agg #[.int .i64 7, .int .i64 a, .int .i64 b], .agg #[.slice A ts.length c, .slice F nf d, .int .i64 locals, .int .i64 code]] w (PairPost w 2 2) := by
  have hB0 : Below w.heap.size w ((w.alloc (.cells #[.int .i64 7, .int .i64 a, .int .i64 b] 27)).alloc (.cells #[.slice A ts.length c, .slice F nf d, .int .i64 locals, .int .i64 code] 36)) := below_alloc' (below_alloc' (below_refl w))
  have hb := heap2' w (.cells #[.int .i64 7, .int .i64 a, .int .i64 b] 27) (.cells #[.slice A ts.length c, .slice F nf d, .int .i64 locals, .int .i64 code] 36)
  have hR := right4_calls 7 a b A c ts F nf d locals code _ (hT.below hB0) hok hr
  rw [hright] at hR
  have HN := Lib.hid (fun w => (show Calls Tryd.prog 49 #[.int .i64 7] w fun e w' => e = .returned (.string ⟨#[115, 119, 97, 112]⟩) ∧ Below w.heap.size w w' from name4_calls 7 w))
  have HR := Lib.hid hR
  have HB0 := Lib.hid hB0
  obtain ⟨c0, c1, c2⟩ := cells3' hb.1
  obtain ⟨c3, c4, c5, c6⟩ := cells4' hb.2
  have R1 := Lib.hid hb.1
  clear hR hB0 hb hright hT hok hr
  go_enter Tryd.func60, Tryd.ntmps60
  go_wp2_with fail
  refine HR.out.mono ?_
  rintro e w1 ⟨rfl, hb⟩
  obtain ⟨d0, d1, d2⟩ := cells3' ((hb.block _ (Array.getElem?_eq_some_iff.1 R1.out).1).trans R1.out)
  have HB1 := Lib.hid (below_then HB0.out hb)
  clear hb HR c0 c1 c2 c3 c4 c5 c6
  go_wp2_with fail
  refine (HN.out _).mono ?_
  rintro e w2 ⟨rfl, hb⟩
  have HB2 := Lib.hid (below_then HB1.out hb)
  clear hb HN d0 d1 d2
  go_wp2_with fail
  go_ret2
  exact ⟨rfl, HB2.out⟩
set_option maxHeartbeats 2000000 in
theorem effect4_8 (a b : Int) (A : Option Addr) (c : Nat) (ts : List Ty) (F : Option Addr) (nf d : Nat) (locals code : Int) (w : World) (hT : TySl w A c ts) (hok : tysOk ts) (hr : a ≤ 9223372036854775807) (hright : rightR (rowOf 8) (allOf ts) nf locals code a b = true) :
    Calls Tryd.prog 60 #[.agg #[.int .i64 8, .int .i64 a, .int .i64 b], .agg #[.slice A ts.length c, .slice F nf d, .int .i64 locals, .int .i64 code]] w (PairPost w 2 1) := by
  have hB0 : Below w.heap.size w ((w.alloc (.cells #[.int .i64 8, .int .i64 a, .int .i64 b] 27)).alloc (.cells #[.slice A ts.length c, .slice F nf d, .int .i64 locals, .int .i64 code] 36)) := below_alloc' (below_alloc' (below_refl w))
  have hb := heap2' w (.cells #[.int .i64 8, .int .i64 a, .int .i64 b] 27) (.cells #[.slice A ts.length c, .slice F nf d, .int .i64 locals, .int .i64 code] 36)
  have hR := right4_calls 8 a b A c ts F nf d locals code _ (hT.below hB0) hok hr
  rw [hright] at hR
  have HN := Lib.hid (fun w => (show Calls Tryd.prog 49 #[.int .i64 8] w fun e w' => e = .returned (.string ⟨#[97, 100, 100]⟩) ∧ Below w.heap.size w w' from name4_calls 8 w))
  have HR := Lib.hid hR
  have HB0 := Lib.hid hB0
  obtain ⟨c0, c1, c2⟩ := cells3' hb.1
  obtain ⟨c3, c4, c5, c6⟩ := cells4' hb.2
  have R1 := Lib.hid hb.1
  clear hR hB0 hb hright hT hok hr
  go_enter Tryd.func60, Tryd.ntmps60
  go_wp2_with fail
  refine HR.out.mono ?_
  rintro e w1 ⟨rfl, hb⟩
  obtain ⟨d0, d1, d2⟩ := cells3' ((hb.block _ (Array.getElem?_eq_some_iff.1 R1.out).1).trans R1.out)
  have HB1 := Lib.hid (below_then HB0.out hb)
  clear hb HR c0 c1 c2 c3 c4 c5 c6
  go_wp2_with fail
  refine (HN.out _).mono ?_
  rintro e w2 ⟨rfl, hb⟩
  have HB2 := Lib.hid (below_then HB1.out hb)
  clear hb HN d0 d1 d2
  go_wp2_with fail
  go_ret2
  exact ⟨rfl, HB2.out⟩
set_option maxHeartbeats 2000000 in
theorem effect4_9 (a b : Int) (A : Option Addr) (c : Nat) (ts : List Ty) (F : Option Addr) (nf d : Nat) (locals code : Int) (w : World) (hT : TySl w A c ts) (hok : tysOk ts) (hr : a ≤ 9223372036854775807) (hright : rightR (rowOf 9) (allOf ts) nf locals code a b = true) :
    Calls Tryd.prog 60 #[.agg #[.int .i64 9, .int .i64 a, .int .i64 b], .agg #[.slice A ts.length c, .slice F nf d, .int .i64 locals, .int .i64 code]] w (PairPost w 2 1) := by
  have hB0 : Below w.heap.size w ((w.alloc (.cells #[.int .i64 9, .int .i64 a, .int .i64 b] 27)).alloc (.cells #[.slice A ts.length c, .slice F nf d, .int .i64 locals, .int .i64 code] 36)) := below_alloc' (below_alloc' (below_refl w))
  have hb := heap2' w (.cells #[.int .i64 9, .int .i64 a, .int .i64 b] 27) (.cells #[.slice A ts.length c, .slice F nf d, .int .i64 locals, .int .i64 code] 36)
  have hR := right4_calls 9 a b A c ts F nf d locals code _ (hT.below hB0) hok hr
  rw [hright] at hR
  have HN := Lib.hid (fun w => (show Calls Tryd.prog 49 #[.int .i64 9] w fun e w' => e = .returned (.string ⟨#[115, 117, 98]⟩) ∧ Below w.heap.size w w' from name4_calls 9 w))
  have HR := Lib.hid hR
  have HB0 := Lib.hid hB0
  obtain ⟨c0, c1, c2⟩ := cells3' hb.1
  obtain ⟨c3, c4, c5, c6⟩ := cells4' hb.2
  have R1 := Lib.hid hb.1
  clear hR hB0 hb hright hT hok hr
  go_enter Tryd.func60, Tryd.ntmps60
  go_wp2_with fail
  refine HR.out.mono ?_
  rintro e w1 ⟨rfl, hb⟩
  obtain ⟨d0, d1, d2⟩ := cells3' ((hb.block _ (Array.getElem?_eq_some_iff.1 R1.out).1).trans R1.out)
  have HB1 := Lib.hid (below_then HB0.out hb)
  clear hb HR c0 c1 c2 c3 c4 c5 c6
  go_wp2_with fail
  refine (HN.out _).mono ?_
  rintro e w2 ⟨rfl, hb⟩
  have HB2 := Lib.hid (below_then HB1.out hb)
  clear hb HN d0 d1 d2
  go_wp2_with fail
  go_ret2
  exact ⟨rfl, HB2.out⟩
set_option maxHeartbeats 2000000 in
theorem effect4_10 (a b : Int) (A : Option Addr) (c : Nat) (ts : List Ty) (F : Option Addr) (nf d : Nat) (locals code : Int) (w : World) (hT : TySl w A c ts) (hok : tysOk ts) (hr : a ≤ 9223372036854775807) (hright : rightR (rowOf 10) (allOf ts) nf locals code a b = true) :
    Calls Tryd.prog 60 #[.agg #[.int .i64 10, .int .i64 a, .int .i64 b], .agg #[.slice A ts.length c, .slice F nf d, .int .i64 locals, .int .i64 code]] w (PairPost w 2 1) := by
  have hB0 : Below w.heap.size w ((w.alloc (.cells #[.int .i64 10, .int .i64 a, .int .i64 b] 27)).alloc (.cells #[.slice A ts.length c, .slice F nf d, .int .i64 locals, .int .i64 code] 36)) := below_alloc' (below_alloc' (below_refl w))
  have hb := heap2' w (.cells #[.int .i64 10, .int .i64 a, .int .i64 b] 27) (.cells #[.slice A ts.length c, .slice F nf d, .int .i64 locals, .int .i64 code] 36)
  have hR := right4_calls 10 a b A c ts F nf d locals code _ (hT.below hB0) hok hr
  rw [hright] at hR
  have HN := Lib.hid (fun w => (show Calls Tryd.prog 49 #[.int .i64 10] w fun e w' => e = .returned (.string ⟨#[109, 117, 108]⟩) ∧ Below w.heap.size w w' from name4_calls 10 w))
  have HR := Lib.hid hR
  have HB0 := Lib.hid hB0
  obtain ⟨c0, c1, c2⟩ := cells3' hb.1
  obtain ⟨c3, c4, c5, c6⟩ := cells4' hb.2
  have R1 := Lib.hid hb.1
  clear hR hB0 hb hright hT hok hr
  go_enter Tryd.func60, Tryd.ntmps60
  go_wp2_with fail
  refine HR.out.mono ?_
  rintro e w1 ⟨rfl, hb⟩
  obtain ⟨d0, d1, d2⟩ := cells3' ((hb.block _ (Array.getElem?_eq_some_iff.1 R1.out).1).trans R1.out)
  have HB1 := Lib.hid (below_then HB0.out hb)
  clear hb HR c0 c1 c2 c3 c4 c5 c6
  go_wp2_with fail
  refine (HN.out _).mono ?_
  rintro e w2 ⟨rfl, hb⟩
  have HB2 := Lib.hid (below_then HB1.out hb)
  clear hb HN d0 d1 d2
  go_wp2_with fail
  go_ret2
  exact ⟨rfl, HB2.out⟩
set_option maxHeartbeats 2000000 in
theorem effect4_11 (a b : Int) (A : Option Addr) (c : Nat) (ts : List Ty) (F : Option Addr) (nf d : Nat) (locals code : Int) (w : World) (hT : TySl w A c ts) (hok : tysOk ts) (hr : a ≤ 9223372036854775807) (hright : rightR (rowOf 11) (allOf ts) nf locals code a b = true) :
    Calls Tryd.prog 60 #[.agg #[.int .i64 11, .int .i64 a, .int .i64 b], .agg #[.slice A ts.length c, .slice F nf d, .int .i64 locals, .int .i64 code]] w (PairPost w 2 1) := by
  have hB0 : Below w.heap.size w ((w.alloc (.cells #[.int .i64 11, .int .i64 a, .int .i64 b] 27)).alloc (.cells #[.slice A ts.length c, .slice F nf d, .int .i64 locals, .int .i64 code] 36)) := below_alloc' (below_alloc' (below_refl w))
  have hb := heap2' w (.cells #[.int .i64 11, .int .i64 a, .int .i64 b] 27) (.cells #[.slice A ts.length c, .slice F nf d, .int .i64 locals, .int .i64 code] 36)
  have hR := right4_calls 11 a b A c ts F nf d locals code _ (hT.below hB0) hok hr
  rw [hright] at hR
  have HN := Lib.hid (fun w => (show Calls Tryd.prog 49 #[.int .i64 11] w fun e w' => e = .returned (.string ⟨#[100, 105, 118]⟩) ∧ Below w.heap.size w w' from name4_calls 11 w))
  have HR := Lib.hid hR
  have HB0 := Lib.hid hB0
  obtain ⟨c0, c1, c2⟩ := cells3' hb.1
  obtain ⟨c3, c4, c5, c6⟩ := cells4' hb.2
  have R1 := Lib.hid hb.1
  clear hR hB0 hb hright hT hok hr
  go_enter Tryd.func60, Tryd.ntmps60
  go_wp2_with fail
  refine HR.out.mono ?_
  rintro e w1 ⟨rfl, hb⟩
  obtain ⟨d0, d1, d2⟩ := cells3' ((hb.block _ (Array.getElem?_eq_some_iff.1 R1.out).1).trans R1.out)
  have HB1 := Lib.hid (below_then HB0.out hb)
  clear hb HR c0 c1 c2 c3 c4 c5 c6
  go_wp2_with fail
  refine (HN.out _).mono ?_
  rintro e w2 ⟨rfl, hb⟩
  have HB2 := Lib.hid (below_then HB1.out hb)
  clear hb HN d0 d1 d2
  go_wp2_with fail
  go_ret2
  exact ⟨rfl, HB2.out⟩
set_option maxHeartbeats 2000000 in
theorem effect4_12 (a b : Int) (A : Option Addr) (c : Nat) (ts : List Ty) (F : Option Addr) (nf d : Nat) (locals code : Int) (w : World) (hT : TySl w A c ts) (hok : tysOk ts) (hr : a ≤ 9223372036854775807) (hright : rightR (rowOf 12) (allOf ts) nf locals code a b = true) :
    Calls Tryd.prog 60 #[.agg #[.int .i64 12, .int .i64 a, .int .i64 b], .agg #[.slice A ts.length c, .slice F nf d, .int .i64 locals, .int .i64 code]] w (PairPost w 2 1) := by
  have hB0 : Below w.heap.size w ((w.alloc (.cells #[.int .i64 12, .int .i64 a, .int .i64 b] 27)).alloc (.cells #[.slice A ts.length c, .slice F nf d, .int .i64 locals, .int .i64 code] 36)) := below_alloc' (below_alloc' (below_refl w))
  have hb := heap2' w (.cells #[.int .i64 12, .int .i64 a, .int .i64 b] 27) (.cells #[.slice A ts.length c, .slice F nf d, .int .i64 locals, .int .i64 code] 36)
  have hR := right4_calls 12 a b A c ts F nf d locals code _ (hT.below hB0) hok hr
  rw [hright] at hR
  have HN := Lib.hid (fun w => (show Calls Tryd.prog 49 #[.int .i64 12] w fun e w' => e = .returned (.string ⟨#[114, 101, 109]⟩) ∧ Below w.heap.size w w' from name4_calls 12 w))
  have HR := Lib.hid hR
  have HB0 := Lib.hid hB0
  obtain ⟨c0, c1, c2⟩ := cells3' hb.1
  obtain ⟨c3, c4, c5, c6⟩ := cells4' hb.2
  have R1 := Lib.hid hb.1
  clear hR hB0 hb hright hT hok hr
  go_enter Tryd.func60, Tryd.ntmps60
  go_wp2_with fail
  refine HR.out.mono ?_
  rintro e w1 ⟨rfl, hb⟩
  obtain ⟨d0, d1, d2⟩ := cells3' ((hb.block _ (Array.getElem?_eq_some_iff.1 R1.out).1).trans R1.out)
  have HB1 := Lib.hid (below_then HB0.out hb)
  clear hb HR c0 c1 c2 c3 c4 c5 c6
  go_wp2_with fail
  refine (HN.out _).mono ?_
  rintro e w2 ⟨rfl, hb⟩
  have HB2 := Lib.hid (below_then HB1.out hb)
  clear hb HN d0 d1 d2
  go_wp2_with fail
  go_ret2
  exact ⟨rfl, HB2.out⟩
set_option maxHeartbeats 2000000 in
theorem effect4_13 (a b : Int) (A : Option Addr) (c : Nat) (ts : List Ty) (F : Option Addr) (nf d : Nat) (locals code : Int) (w : World) (hT : TySl w A c ts) (hok : tysOk ts) (hr : a ≤ 9223372036854775807) (hright : rightR (rowOf 13) (allOf ts) nf locals code a b = true) :
    Calls Tryd.prog 60 #[.agg #[.int .i64 13, .int .i64 a, .int .i64 b], .agg #[.slice A ts.length c, .slice F nf d, .int .i64 locals, .int .i64 code]] w (PairPost w 2 1) := by
  have hB0 : Below w.heap.size w ((w.alloc (.cells #[.int .i64 13, .int .i64 a, .int .i64 b] 27)).alloc (.cells #[.slice A ts.length c, .slice F nf d, .int .i64 locals, .int .i64 code] 36)) := below_alloc' (below_alloc' (below_refl w))
  have hb := heap2' w (.cells #[.int .i64 13, .int .i64 a, .int .i64 b] 27) (.cells #[.slice A ts.length c, .slice F nf d, .int .i64 locals, .int .i64 code] 36)
  have hR := right4_calls 13 a b A c ts F nf d locals code _ (hT.below hB0) hok hr
  rw [hright] at hR
  have HN := Lib.hid (fun w => (show Calls Tryd.prog 49 #[.int .i64 13] w fun e w' => e = .returned (.string ⟨#[108, 101, 115, 115]⟩) ∧ Below w.heap.size w w' from name4_calls 13 w))
  have HR := Lib.hid hR
  have HB0 := Lib.hid hB0
  obtain ⟨c0, c1, c2⟩ := cells3' hb.1
  obtain ⟨c3, c4, c5, c6⟩ := cells4' hb.2
  have R1 := Lib.hid hb.1
  clear hR hB0 hb hright hT hok hr
  go_enter Tryd.func60, Tryd.ntmps60
  go_wp2_with fail
  refine HR.out.mono ?_
  rintro e w1 ⟨rfl, hb⟩
  obtain ⟨d0, d1, d2⟩ := cells3' ((hb.block _ (Array.getElem?_eq_some_iff.1 R1.out).1).trans R1.out)
  have HB1 := Lib.hid (below_then HB0.out hb)
  clear hb HR c0 c1 c2 c3 c4 c5 c6
  go_wp2_with fail
  refine (HN.out _).mono ?_
  rintro e w2 ⟨rfl, hb⟩
  have HB2 := Lib.hid (below_then HB1.out hb)
  clear hb HN d0 d1 d2
  go_wp2_with fail
  go_ret2
  exact ⟨rfl, HB2.out⟩
set_option maxHeartbeats 2000000 in
theorem effect4_14 (a b : Int) (A : Option Addr) (c : Nat) (ts : List Ty) (F : Option Addr) (nf d : Nat) (locals code : Int) (w : World) (hT : TySl w A c ts) (hok : tysOk ts) (hr : a ≤ 9223372036854775807) (hright : rightR (rowOf 14) (allOf ts) nf locals code a b = true) :
    Calls Tryd.prog 60 #[.agg #[.int .i64 14, .int .i64 a, .int .i64 b], .agg #[.slice A ts.length c, .slice F nf d, .int .i64 locals, .int .i64 code]] w (PairPost w 2 1) := by
  have hB0 : Below w.heap.size w ((w.alloc (.cells #[.int .i64 14, .int .i64 a, .int .i64 b] 27)).alloc (.cells #[.slice A ts.length c, .slice F nf d, .int .i64 locals, .int .i64 code] 36)) := below_alloc' (below_alloc' (below_refl w))
  have hb := heap2' w (.cells #[.int .i64 14, .int .i64 a, .int .i64 b] 27) (.cells #[.slice A ts.length c, .slice F nf d, .int .i64 locals, .int .i64 code] 36)
  have hR := right4_calls 14 a b A c ts F nf d locals code _ (hT.below hB0) hok hr
  rw [hright] at hR
  have HN := Lib.hid (fun w => (show Calls Tryd.prog 49 #[.int .i64 14] w fun e w' => e = .returned (.string ⟨#[115, 97, 109, 101]⟩) ∧ Below w.heap.size w w' from name4_calls 14 w))
  have HR := Lib.hid hR
  have HB0 := Lib.hid hB0
  obtain ⟨c0, c1, c2⟩ := cells3' hb.1
  obtain ⟨c3, c4, c5, c6⟩ := cells4' hb.2
  have R1 := Lib.hid hb.1
  clear hR hB0 hb hright hT hok hr
  go_enter Tryd.func60, Tryd.ntmps60
  go_wp2_with fail
  refine HR.out.mono ?_
  rintro e w1 ⟨rfl, hb⟩
  obtain ⟨d0, d1, d2⟩ := cells3' ((hb.block _ (Array.getElem?_eq_some_iff.1 R1.out).1).trans R1.out)
  have HB1 := Lib.hid (below_then HB0.out hb)
  clear hb HR c0 c1 c2 c3 c4 c5 c6
  go_wp2_with fail
  refine (HN.out _).mono ?_
  rintro e w2 ⟨rfl, hb⟩
  have HB2 := Lib.hid (below_then HB1.out hb)
  clear hb HN d0 d1 d2
  go_wp2_with fail
  go_ret2
  exact ⟨rfl, HB2.out⟩
set_option maxHeartbeats 2000000 in
theorem effect4_15 (a b : Int) (A : Option Addr) (c : Nat) (ts : List Ty) (F : Option Addr) (nf d : Nat) (locals code : Int) (w : World) (hT : TySl w A c ts) (hok : tysOk ts) (hr : a ≤ 9223372036854775807) (hright : rightR (rowOf 15) (allOf ts) nf locals code a b = true) :
    Calls Tryd.prog 60 #[.agg #[.int .i64 15, .int .i64 a, .int .i64 b], .agg #[.slice A ts.length c, .slice F nf d, .int .i64 locals, .int .i64 code]] w (PairPost w 1 1) := by
  have hB0 : Below w.heap.size w ((w.alloc (.cells #[.int .i64 15, .int .i64 a, .int .i64 b] 27)).alloc (.cells #[.slice A ts.length c, .slice F nf d, .int .i64 locals, .int .i64 code] 36)) := below_alloc' (below_alloc' (below_refl w))
  have hb := heap2' w (.cells #[.int .i64 15, .int .i64 a, .int .i64 b] 27) (.cells #[.slice A ts.length c, .slice F nf d, .int .i64 locals, .int .i64 code] 36)
  have hR := right4_calls 15 a b A c ts F nf d locals code _ (hT.below hB0) hok hr
  rw [hright] at hR
  have HN := Lib.hid (fun w => (show Calls Tryd.prog 49 #[.int .i64 15] w fun e w' => e = .returned (.string ⟨#[110, 111, 116]⟩) ∧ Below w.heap.size w w' from name4_calls 15 w))
  have HR := Lib.hid hR
  have HB0 := Lib.hid hB0
  obtain ⟨c0, c1, c2⟩ := cells3' hb.1
  obtain ⟨c3, c4, c5, c6⟩ := cells4' hb.2
  have R1 := Lib.hid hb.1
  clear hR hB0 hb hright hT hok hr
  go_enter Tryd.func60, Tryd.ntmps60
  go_wp2_with fail
  refine HR.out.mono ?_
  rintro e w1 ⟨rfl, hb⟩
  obtain ⟨d0, d1, d2⟩ := cells3' ((hb.block _ (Array.getElem?_eq_some_iff.1 R1.out).1).trans R1.out)
  have HB1 := Lib.hid (below_then HB0.out hb)
  clear hb HR c0 c1 c2 c3 c4 c5 c6
  go_wp2_with fail
  refine (HN.out _).mono ?_
  rintro e w2 ⟨rfl, hb⟩
  have HB2 := Lib.hid (below_then HB1.out hb)
  clear hb HN d0 d1 d2
  go_wp2_with fail
  go_ret2
  exact ⟨rfl, HB2.out⟩
set_option maxHeartbeats 2000000 in
theorem effect4_16 (a b : Int) (A : Option Addr) (c : Nat) (ts : List Ty) (F : Option Addr) (nf d : Nat) (locals code : Int) (w : World) (hT : TySl w A c ts) (hok : tysOk ts) (hr : a ≤ 9223372036854775807) (hright : rightR (rowOf 16) (allOf ts) nf locals code a b = true) :
    Calls Tryd.prog 60 #[.agg #[.int .i64 16, .int .i64 a, .int .i64 b], .agg #[.slice A ts.length c, .slice F nf d, .int .i64 locals, .int .i64 code]] w (PairPost w 2 1) := by
  have hB0 : Below w.heap.size w ((w.alloc (.cells #[.int .i64 16, .int .i64 a, .int .i64 b] 27)).alloc (.cells #[.slice A ts.length c, .slice F nf d, .int .i64 locals, .int .i64 code] 36)) := below_alloc' (below_alloc' (below_refl w))
  have hb := heap2' w (.cells #[.int .i64 16, .int .i64 a, .int .i64 b] 27) (.cells #[.slice A ts.length c, .slice F nf d, .int .i64 locals, .int .i64 code] 36)
  have hR := right4_calls 16 a b A c ts F nf d locals code _ (hT.below hB0) hok hr
  rw [hright] at hR
  have HN := Lib.hid (fun w => (show Calls Tryd.prog 49 #[.int .i64 16] w fun e w' => e = .returned (.string ⟨#[97, 110, 100]⟩) ∧ Below w.heap.size w w' from name4_calls 16 w))
  have HR := Lib.hid hR
  have HB0 := Lib.hid hB0
  obtain ⟨c0, c1, c2⟩ := cells3' hb.1
  obtain ⟨c3, c4, c5, c6⟩ := cells4' hb.2
  have R1 := Lib.hid hb.1
  clear hR hB0 hb hright hT hok hr
  go_enter Tryd.func60, Tryd.ntmps60
  go_wp2_with fail
  refine HR.out.mono ?_
  rintro e w1 ⟨rfl, hb⟩
  obtain ⟨d0, d1, d2⟩ := cells3' ((hb.block _ (Array.getElem?_eq_some_iff.1 R1.out).1).trans R1.out)
  have HB1 := Lib.hid (below_then HB0.out hb)
  clear hb HR c0 c1 c2 c3 c4 c5 c6
  go_wp2_with fail
  refine (HN.out _).mono ?_
  rintro e w2 ⟨rfl, hb⟩
  have HB2 := Lib.hid (below_then HB1.out hb)
  clear hb HN d0 d1 d2
  go_wp2_with fail
  go_ret2
  exact ⟨rfl, HB2.out⟩
set_option maxHeartbeats 2000000 in
theorem effect4_17 (a b : Int) (A : Option Addr) (c : Nat) (ts : List Ty) (F : Option Addr) (nf d : Nat) (locals code : Int) (w : World) (hT : TySl w A c ts) (hok : tysOk ts) (hr : a ≤ 9223372036854775807) (hright : rightR (rowOf 17) (allOf ts) nf locals code a b = true) :
    Calls Tryd.prog 60 #[.agg #[.int .i64 17, .int .i64 a, .int .i64 b], .agg #[.slice A ts.length c, .slice F nf d, .int .i64 locals, .int .i64 code]] w (PairPost w 2 1) := by
  have hB0 : Below w.heap.size w ((w.alloc (.cells #[.int .i64 17, .int .i64 a, .int .i64 b] 27)).alloc (.cells #[.slice A ts.length c, .slice F nf d, .int .i64 locals, .int .i64 code] 36)) := below_alloc' (below_alloc' (below_refl w))
  have hb := heap2' w (.cells #[.int .i64 17, .int .i64 a, .int .i64 b] 27) (.cells #[.slice A ts.length c, .slice F nf d, .int .i64 locals, .int .i64 code] 36)
  have hR := right4_calls 17 a b A c ts F nf d locals code _ (hT.below hB0) hok hr
  rw [hright] at hR
  have HN := Lib.hid (fun w => (show Calls Tryd.prog 49 #[.int .i64 17] w fun e w' => e = .returned (.string ⟨#[111, 114]⟩) ∧ Below w.heap.size w w' from name4_calls 17 w))
  have HR := Lib.hid hR
  have HB0 := Lib.hid hB0
  obtain ⟨c0, c1, c2⟩ := cells3' hb.1
  obtain ⟨c3, c4, c5, c6⟩ := cells4' hb.2
  have R1 := Lib.hid hb.1
  clear hR hB0 hb hright hT hok hr
  go_enter Tryd.func60, Tryd.ntmps60
  go_wp2_with fail
  refine HR.out.mono ?_
  rintro e w1 ⟨rfl, hb⟩
  obtain ⟨d0, d1, d2⟩ := cells3' ((hb.block _ (Array.getElem?_eq_some_iff.1 R1.out).1).trans R1.out)
  have HB1 := Lib.hid (below_then HB0.out hb)
  clear hb HR c0 c1 c2 c3 c4 c5 c6
  go_wp2_with fail
  refine (HN.out _).mono ?_
  rintro e w2 ⟨rfl, hb⟩
  have HB2 := Lib.hid (below_then HB1.out hb)
  clear hb HN d0 d1 d2
  go_wp2_with fail
  go_ret2
  exact ⟨rfl, HB2.out⟩
set_option maxHeartbeats 2000000 in
theorem effect4_18 (a b : Int) (A : Option Addr) (c : Nat) (ts : List Ty) (F : Option Addr) (nf d : Nat) (locals code : Int) (w : World) (hT : TySl w A c ts) (hok : tysOk ts) (hr : a ≤ 9223372036854775807) (hright : rightR (rowOf 18) (allOf ts) nf locals code a b = true) :
    Calls Tryd.prog 60 #[.agg #[.int .i64 18, .int .i64 a, .int .i64 b], .agg #[.slice A ts.length c, .slice F nf d, .int .i64 locals, .int .i64 code]] w (PairPost w 0 0) := by
  have hB0 : Below w.heap.size w ((w.alloc (.cells #[.int .i64 18, .int .i64 a, .int .i64 b] 27)).alloc (.cells #[.slice A ts.length c, .slice F nf d, .int .i64 locals, .int .i64 code] 36)) := below_alloc' (below_alloc' (below_refl w))
  have hb := heap2' w (.cells #[.int .i64 18, .int .i64 a, .int .i64 b] 27) (.cells #[.slice A ts.length c, .slice F nf d, .int .i64 locals, .int .i64 code] 36)
  have hR := right4_calls 18 a b A c ts F nf d locals code _ (hT.below hB0) hok hr
  rw [hright] at hR
  have HN := Lib.hid (fun w => (show Calls Tryd.prog 49 #[.int .i64 18] w fun e w' => e = .returned (.string ⟨#[106, 117, 109, 112]⟩) ∧ Below w.heap.size w w' from name4_calls 18 w))
  have HR := Lib.hid hR
  have HB0 := Lib.hid hB0
  obtain ⟨c0, c1, c2⟩ := cells3' hb.1
  obtain ⟨c3, c4, c5, c6⟩ := cells4' hb.2
  have R1 := Lib.hid hb.1
  clear hR hB0 hb hright hT hok hr
  go_enter Tryd.func60, Tryd.ntmps60
  go_wp2_with fail
  refine HR.out.mono ?_
  rintro e w1 ⟨rfl, hb⟩
  obtain ⟨d0, d1, d2⟩ := cells3' ((hb.block _ (Array.getElem?_eq_some_iff.1 R1.out).1).trans R1.out)
  have HB1 := Lib.hid (below_then HB0.out hb)
  clear hb HR c0 c1 c2 c3 c4 c5 c6
  go_wp2_with fail
  refine (HN.out _).mono ?_
  rintro e w2 ⟨rfl, hb⟩
  have HB2 := Lib.hid (below_then HB1.out hb)
  clear hb HN d0 d1 d2
  go_wp2_with fail
  go_ret2
  exact ⟨rfl, HB2.out⟩
set_option maxHeartbeats 2000000 in
theorem effect4_19 (a b : Int) (A : Option Addr) (c : Nat) (ts : List Ty) (F : Option Addr) (nf d : Nat) (locals code : Int) (w : World) (hT : TySl w A c ts) (hok : tysOk ts) (hr : a ≤ 9223372036854775807) (hright : rightR (rowOf 19) (allOf ts) nf locals code a b = true) :
    Calls Tryd.prog 60 #[.agg #[.int .i64 19, .int .i64 a, .int .i64 b], .agg #[.slice A ts.length c, .slice F nf d, .int .i64 locals, .int .i64 code]] w (PairPost w 1 0) := by
  have hB0 : Below w.heap.size w ((w.alloc (.cells #[.int .i64 19, .int .i64 a, .int .i64 b] 27)).alloc (.cells #[.slice A ts.length c, .slice F nf d, .int .i64 locals, .int .i64 code] 36)) := below_alloc' (below_alloc' (below_refl w))
  have hb := heap2' w (.cells #[.int .i64 19, .int .i64 a, .int .i64 b] 27) (.cells #[.slice A ts.length c, .slice F nf d, .int .i64 locals, .int .i64 code] 36)
  have hR := right4_calls 19 a b A c ts F nf d locals code _ (hT.below hB0) hok hr
  rw [hright] at hR
  have HN := Lib.hid (fun w => (show Calls Tryd.prog 49 #[.int .i64 19] w fun e w' => e = .returned (.string ⟨#[117, 110, 108, 101, 115, 115]⟩) ∧ Below w.heap.size w w' from name4_calls 19 w))
  have HR := Lib.hid hR
  have HB0 := Lib.hid hB0
  obtain ⟨c0, c1, c2⟩ := cells3' hb.1
  obtain ⟨c3, c4, c5, c6⟩ := cells4' hb.2
  have R1 := Lib.hid hb.1
  clear hR hB0 hb hright hT hok hr
  go_enter Tryd.func60, Tryd.ntmps60
  go_wp2_with fail
  refine HR.out.mono ?_
  rintro e w1 ⟨rfl, hb⟩
  obtain ⟨d0, d1, d2⟩ := cells3' ((hb.block _ (Array.getElem?_eq_some_iff.1 R1.out).1).trans R1.out)
  have HB1 := Lib.hid (below_then HB0.out hb)
  clear hb HR c0 c1 c2 c3 c4 c5 c6
  go_wp2_with fail
  refine (HN.out _).mono ?_
  rintro e w2 ⟨rfl, hb⟩
  have HB2 := Lib.hid (below_then HB1.out hb)
  clear hb HN d0 d1 d2
  go_wp2_with fail
  go_ret2
  exact ⟨rfl, HB2.out⟩
set_option maxHeartbeats 2000000 in
theorem effect4_21 (a b : Int) (A : Option Addr) (c : Nat) (ts : List Ty) (F : Option Addr) (nf d : Nat) (locals code : Int) (w : World) (hT : TySl w A c ts) (hok : tysOk ts) (hr : a ≤ 9223372036854775807) (hright : rightR (rowOf 21) (allOf ts) nf locals code a b = true) :
    Calls Tryd.prog 60 #[.agg #[.int .i64 21, .int .i64 a, .int .i64 b], .agg #[.slice A ts.length c, .slice F nf d, .int .i64 locals, .int .i64 code]] w (PairPost w 1 0) := by
  have hB0 : Below w.heap.size w ((w.alloc (.cells #[.int .i64 21, .int .i64 a, .int .i64 b] 27)).alloc (.cells #[.slice A ts.length c, .slice F nf d, .int .i64 locals, .int .i64 code] 36)) := below_alloc' (below_alloc' (below_refl w))
  have hb := heap2' w (.cells #[.int .i64 21, .int .i64 a, .int .i64 b] 27) (.cells #[.slice A ts.length c, .slice F nf d, .int .i64 locals, .int .i64 code] 36)
  have hR := right4_calls 21 a b A c ts F nf d locals code _ (hT.below hB0) hok hr
  rw [hright] at hR
  have HN := Lib.hid (fun w => (show Calls Tryd.prog 49 #[.int .i64 21] w fun e w' => e = .returned (.string ⟨#[114, 101, 116]⟩) ∧ Below w.heap.size w w' from name4_calls 21 w))
  have HR := Lib.hid hR
  have HB0 := Lib.hid hB0
  obtain ⟨c0, c1, c2⟩ := cells3' hb.1
  obtain ⟨c3, c4, c5, c6⟩ := cells4' hb.2
  have R1 := Lib.hid hb.1
  clear hR hB0 hb hright hT hok hr
  go_enter Tryd.func60, Tryd.ntmps60
  go_wp2_with fail
  refine HR.out.mono ?_
  rintro e w1 ⟨rfl, hb⟩
  obtain ⟨d0, d1, d2⟩ := cells3' ((hb.block _ (Array.getElem?_eq_some_iff.1 R1.out).1).trans R1.out)
  have HB1 := Lib.hid (below_then HB0.out hb)
  clear hb HR c0 c1 c2 c3 c4 c5 c6
  go_wp2_with fail
  refine (HN.out _).mono ?_
  rintro e w2 ⟨rfl, hb⟩
  have HB2 := Lib.hid (below_then HB1.out hb)
  clear hb HN d0 d1 d2
  go_wp2_with fail
  go_ret2
  exact ⟨rfl, HB2.out⟩
set_option maxHeartbeats 2000000 in
theorem effect4_23 (a b : Int) (A : Option Addr) (c : Nat) (ts : List Ty) (F : Option Addr) (nf d : Nat) (locals code : Int) (w : World) (hT : TySl w A c ts) (hok : tysOk ts) (hr : a ≤ 9223372036854775807) (hright : rightR (rowOf 23) (allOf ts) nf locals code a b = true) :
    Calls Tryd.prog 60 #[.agg #[.int .i64 23, .int .i64 a, .int .i64 b], .agg #[.slice A ts.length c, .slice F nf d, .int .i64 locals, .int .i64 code]] w (PairPost w 1 1) := by
  have hB0 : Below w.heap.size w ((w.alloc (.cells #[.int .i64 23, .int .i64 a, .int .i64 b] 27)).alloc (.cells #[.slice A ts.length c, .slice F nf d, .int .i64 locals, .int .i64 code] 36)) := below_alloc' (below_alloc' (below_refl w))
  have hb := heap2' w (.cells #[.int .i64 23, .int .i64 a, .int .i64 b] 27) (.cells #[.slice A ts.length c, .slice F nf d, .int .i64 locals, .int .i64 code] 36)
  have hR := right4_calls 23 a b A c ts F nf d locals code _ (hT.below hB0) hok hr
  rw [hright] at hR
  have HN := Lib.hid (fun w => (show Calls Tryd.prog 49 #[.int .i64 23] w fun e w' => e = .returned (.string ⟨#[102, 105, 101, 108, 100]⟩) ∧ Below w.heap.size w w' from name4_calls 23 w))
  have HR := Lib.hid hR
  have HB0 := Lib.hid hB0
  obtain ⟨c0, c1, c2⟩ := cells3' hb.1
  obtain ⟨c3, c4, c5, c6⟩ := cells4' hb.2
  have R1 := Lib.hid hb.1
  clear hR hB0 hb hright hT hok hr
  go_enter Tryd.func60, Tryd.ntmps60
  go_wp2_with fail
  refine HR.out.mono ?_
  rintro e w1 ⟨rfl, hb⟩
  obtain ⟨d0, d1, d2⟩ := cells3' ((hb.block _ (Array.getElem?_eq_some_iff.1 R1.out).1).trans R1.out)
  have HB1 := Lib.hid (below_then HB0.out hb)
  clear hb HR c0 c1 c2 c3 c4 c5 c6
  go_wp2_with fail
  refine (HN.out _).mono ?_
  rintro e w2 ⟨rfl, hb⟩
  have HB2 := Lib.hid (below_then HB1.out hb)
  clear hb HN d0 d1 d2
  go_wp2_with fail
  go_ret2
  exact ⟨rfl, HB2.out⟩
set_option maxHeartbeats 2000000 in
theorem effect4_24 (a b : Int) (A : Option Addr) (c : Nat) (ts : List Ty) (F : Option Addr) (nf d : Nat) (locals code : Int) (w : World) (hT : TySl w A c ts) (hok : tysOk ts) (hr : a ≤ 9223372036854775807) (hright : rightR (rowOf 24) (allOf ts) nf locals code a b = true) :
    Calls Tryd.prog 60 #[.agg #[.int .i64 24, .int .i64 a, .int .i64 b], .agg #[.slice A ts.length c, .slice F nf d, .int .i64 locals, .int .i64 code]] w (PairPost w 2 0) := by
  have hB0 : Below w.heap.size w ((w.alloc (.cells #[.int .i64 24, .int .i64 a, .int .i64 b] 27)).alloc (.cells #[.slice A ts.length c, .slice F nf d, .int .i64 locals, .int .i64 code] 36)) := below_alloc' (below_alloc' (below_refl w))
  have hb := heap2' w (.cells #[.int .i64 24, .int .i64 a, .int .i64 b] 27) (.cells #[.slice A ts.length c, .slice F nf d, .int .i64 locals, .int .i64 code] 36)
  have hR := right4_calls 24 a b A c ts F nf d locals code _ (hT.below hB0) hok hr
  rw [hright] at hR
  have HN := Lib.hid (fun w => (show Calls Tryd.prog 49 #[.int .i64 24] w fun e w' => e = .returned (.string ⟨#[115, 116, 111, 114, 101]⟩) ∧ Below w.heap.size w w' from name4_calls 24 w))
  have HR := Lib.hid hR
  have HB0 := Lib.hid hB0
  obtain ⟨c0, c1, c2⟩ := cells3' hb.1
  obtain ⟨c3, c4, c5, c6⟩ := cells4' hb.2
  have R1 := Lib.hid hb.1
  clear hR hB0 hb hright hT hok hr
  go_enter Tryd.func60, Tryd.ntmps60
  go_wp2_with fail
  refine HR.out.mono ?_
  rintro e w1 ⟨rfl, hb⟩
  obtain ⟨d0, d1, d2⟩ := cells3' ((hb.block _ (Array.getElem?_eq_some_iff.1 R1.out).1).trans R1.out)
  have HB1 := Lib.hid (below_then HB0.out hb)
  clear hb HR c0 c1 c2 c3 c4 c5 c6
  go_wp2_with fail
  refine (HN.out _).mono ?_
  rintro e w2 ⟨rfl, hb⟩
  have HB2 := Lib.hid (below_then HB1.out hb)
  clear hb HN d0 d1 d2
  go_wp2_with fail
  go_ret2
  exact ⟨rfl, HB2.out⟩
set_option maxHeartbeats 2000000 in
theorem effect4_25 (a b : Int) (A : Option Addr) (c : Nat) (ts : List Ty) (F : Option Addr) (nf d : Nat) (locals code : Int) (w : World) (hT : TySl w A c ts) (hok : tysOk ts) (hr : a ≤ 9223372036854775807) (hright : rightR (rowOf 25) (allOf ts) nf locals code a b = true) :
    Calls Tryd.prog 60 #[.agg #[.int .i64 25, .int .i64 a, .int .i64 b], .agg #[.slice A ts.length c, .slice F nf d, .int .i64 locals, .int .i64 code]] w (PairPost w 2 1) := by
  have hB0 : Below w.heap.size w ((w.alloc (.cells #[.int .i64 25, .int .i64 a, .int .i64 b] 27)).alloc (.cells #[.slice A ts.length c, .slice F nf d, .int .i64 locals, .int .i64 code] 36)) := below_alloc' (below_alloc' (below_refl w))
  have hb := heap2' w (.cells #[.int .i64 25, .int .i64 a, .int .i64 b] 27) (.cells #[.slice A ts.length c, .slice F nf d, .int .i64 locals, .int .i64 code] 36)
  have hR := right4_calls 25 a b A c ts F nf d locals code _ (hT.below hB0) hok hr
  rw [hright] at hR
  have HN := Lib.hid (fun w => (show Calls Tryd.prog 49 #[.int .i64 25] w fun e w' => e = .returned (.string ⟨#[97, 114, 114, 97, 121]⟩) ∧ Below w.heap.size w w' from name4_calls 25 w))
  have HR := Lib.hid hR
  have HB0 := Lib.hid hB0
  obtain ⟨c0, c1, c2⟩ := cells3' hb.1
  obtain ⟨c3, c4, c5, c6⟩ := cells4' hb.2
  have R1 := Lib.hid hb.1
  clear hR hB0 hb hright hT hok hr
  go_enter Tryd.func60, Tryd.ntmps60
  go_wp2_with fail
  refine HR.out.mono ?_
  rintro e w1 ⟨rfl, hb⟩
  obtain ⟨d0, d1, d2⟩ := cells3' ((hb.block _ (Array.getElem?_eq_some_iff.1 R1.out).1).trans R1.out)
  have HB1 := Lib.hid (below_then HB0.out hb)
  clear hb HR c0 c1 c2 c3 c4 c5 c6
  go_wp2_with fail
  refine (HN.out _).mono ?_
  rintro e w2 ⟨rfl, hb⟩
  have HB2 := Lib.hid (below_then HB1.out hb)
  clear hb HN d0 d1 d2
  go_wp2_with fail
  go_ret2
  exact ⟨rfl, HB2.out⟩
set_option maxHeartbeats 2000000 in
theorem effect4_26 (a b : Int) (A : Option Addr) (c : Nat) (ts : List Ty) (F : Option Addr) (nf d : Nat) (locals code : Int) (w : World) (hT : TySl w A c ts) (hok : tysOk ts) (hr : a ≤ 9223372036854775807) (hright : rightR (rowOf 26) (allOf ts) nf locals code a b = true) :
    Calls Tryd.prog 60 #[.agg #[.int .i64 26, .int .i64 a, .int .i64 b], .agg #[.slice A ts.length c, .slice F nf d, .int .i64 locals, .int .i64 code]] w (PairPost w 2 1) := by
  have hB0 : Below w.heap.size w ((w.alloc (.cells #[.int .i64 26, .int .i64 a, .int .i64 b] 27)).alloc (.cells #[.slice A ts.length c, .slice F nf d, .int .i64 locals, .int .i64 code] 36)) := below_alloc' (below_alloc' (below_refl w))
  have hb := heap2' w (.cells #[.int .i64 26, .int .i64 a, .int .i64 b] 27) (.cells #[.slice A ts.length c, .slice F nf d, .int .i64 locals, .int .i64 code] 36)
  have hR := right4_calls 26 a b A c ts F nf d locals code _ (hT.below hB0) hok hr
  rw [hright] at hR
  have HN := Lib.hid (fun w => (show Calls Tryd.prog 49 #[.int .i64 26] w fun e w' => e = .returned (.string ⟨#[108, 111, 97, 100]⟩) ∧ Below w.heap.size w w' from name4_calls 26 w))
  have HR := Lib.hid hR
  have HB0 := Lib.hid hB0
  obtain ⟨c0, c1, c2⟩ := cells3' hb.1
  obtain ⟨c3, c4, c5, c6⟩ := cells4' hb.2
  have R1 := Lib.hid hb.1
  clear hR hB0 hb hright hT hok hr
  go_enter Tryd.func60, Tryd.ntmps60
  go_wp2_with fail
  refine HR.out.mono ?_
  rintro e w1 ⟨rfl, hb⟩
  obtain ⟨d0, d1, d2⟩ := cells3' ((hb.block _ (Array.getElem?_eq_some_iff.1 R1.out).1).trans R1.out)
  have HB1 := Lib.hid (below_then HB0.out hb)
  clear hb HR c0 c1 c2 c3 c4 c5 c6
  go_wp2_with fail
  refine (HN.out _).mono ?_
  rintro e w2 ⟨rfl, hb⟩
  have HB2 := Lib.hid (below_then HB1.out hb)
  clear hb HN d0 d1 d2
  go_wp2_with fail
  go_ret2
  exact ⟨rfl, HB2.out⟩
set_option maxHeartbeats 2000000 in
theorem effect4_27 (a b : Int) (A : Option Addr) (c : Nat) (ts : List Ty) (F : Option Addr) (nf d : Nat) (locals code : Int) (w : World) (hT : TySl w A c ts) (hok : tysOk ts) (hr : a ≤ 9223372036854775807) (hright : rightR (rowOf 27) (allOf ts) nf locals code a b = true) :
    Calls Tryd.prog 60 #[.agg #[.int .i64 27, .int .i64 a, .int .i64 b], .agg #[.slice A ts.length c, .slice F nf d, .int .i64 locals, .int .i64 code]] w (PairPost w 3 0) := by
  have hB0 : Below w.heap.size w ((w.alloc (.cells #[.int .i64 27, .int .i64 a, .int .i64 b] 27)).alloc (.cells #[.slice A ts.length c, .slice F nf d, .int .i64 locals, .int .i64 code] 36)) := below_alloc' (below_alloc' (below_refl w))
  have hb := heap2' w (.cells #[.int .i64 27, .int .i64 a, .int .i64 b] 27) (.cells #[.slice A ts.length c, .slice F nf d, .int .i64 locals, .int .i64 code] 36)
  have hR := right4_calls 27 a b A c ts F nf d locals code _ (hT.below hB0) hok hr
  rw [hright] at hR
  have HN := Lib.hid (fun w => (show Calls Tryd.prog 49 #[.int .i64 27] w fun e w' => e = .returned (.string ⟨#[112, 117, 116]⟩) ∧ Below w.heap.size w w' from name4_calls 27 w))
  have HR := Lib.hid hR
  have HB0 := Lib.hid hB0
  obtain ⟨c0, c1, c2⟩ := cells3' hb.1
  obtain ⟨c3, c4, c5, c6⟩ := cells4' hb.2
  have R1 := Lib.hid hb.1
  clear hR hB0 hb hright hT hok hr
  go_enter Tryd.func60, Tryd.ntmps60
  go_wp2_with fail
  refine HR.out.mono ?_
  rintro e w1 ⟨rfl, hb⟩
  obtain ⟨d0, d1, d2⟩ := cells3' ((hb.block _ (Array.getElem?_eq_some_iff.1 R1.out).1).trans R1.out)
  have HB1 := Lib.hid (below_then HB0.out hb)
  clear hb HR c0 c1 c2 c3 c4 c5 c6
  go_wp2_with fail
  refine (HN.out _).mono ?_
  rintro e w2 ⟨rfl, hb⟩
  have HB2 := Lib.hid (below_then HB1.out hb)
  clear hb HN d0 d1 d2
  go_wp2_with fail
  go_ret2
  exact ⟨rfl, HB2.out⟩
set_option maxHeartbeats 2000000 in
theorem effect4_28 (a b : Int) (A : Option Addr) (c : Nat) (ts : List Ty) (F : Option Addr) (nf d : Nat) (locals code : Int) (w : World) (hT : TySl w A c ts) (hok : tysOk ts) (hr : a ≤ 9223372036854775807) (hright : rightR (rowOf 28) (allOf ts) nf locals code a b = true) :
    Calls Tryd.prog 60 #[.agg #[.int .i64 28, .int .i64 a, .int .i64 b], .agg #[.slice A ts.length c, .slice F nf d, .int .i64 locals, .int .i64 code]] w (PairPost w 1 1) := by
  have hB0 : Below w.heap.size w ((w.alloc (.cells #[.int .i64 28, .int .i64 a, .int .i64 b] 27)).alloc (.cells #[.slice A ts.length c, .slice F nf d, .int .i64 locals, .int .i64 code] 36)) := below_alloc' (below_alloc' (below_refl w))
  have hb := heap2' w (.cells #[.int .i64 28, .int .i64 a, .int .i64 b] 27) (.cells #[.slice A ts.length c, .slice F nf d, .int .i64 locals, .int .i64 code] 36)
  have hR := right4_calls 28 a b A c ts F nf d locals code _ (hT.below hB0) hok hr
  rw [hright] at hR
  have HN := Lib.hid (fun w => (show Calls Tryd.prog 49 #[.int .i64 28] w fun e w' => e = .returned (.string ⟨#[115, 105, 122, 101]⟩) ∧ Below w.heap.size w w' from name4_calls 28 w))
  have HR := Lib.hid hR
  have HB0 := Lib.hid hB0
  obtain ⟨c0, c1, c2⟩ := cells3' hb.1
  obtain ⟨c3, c4, c5, c6⟩ := cells4' hb.2
  have R1 := Lib.hid hb.1
  clear hR hB0 hb hright hT hok hr
  go_enter Tryd.func60, Tryd.ntmps60
  go_wp2_with fail
  refine HR.out.mono ?_
  rintro e w1 ⟨rfl, hb⟩
  obtain ⟨d0, d1, d2⟩ := cells3' ((hb.block _ (Array.getElem?_eq_some_iff.1 R1.out).1).trans R1.out)
  have HB1 := Lib.hid (below_then HB0.out hb)
  clear hb HR c0 c1 c2 c3 c4 c5 c6
  go_wp2_with fail
  refine (HN.out _).mono ?_
  rintro e w2 ⟨rfl, hb⟩
  have HB2 := Lib.hid (below_then HB1.out hb)
  clear hb HN d0 d1 d2
  go_wp2_with fail
  go_ret2
  exact ⟨rfl, HB2.out⟩
set_option maxHeartbeats 2000000 in
theorem effect4_31 (a b : Int) (A : Option Addr) (c : Nat) (ts : List Ty) (F : Option Addr) (nf d : Nat) (locals code : Int) (w : World) (hT : TySl w A c ts) (hok : tysOk ts) (hr : a ≤ 9223372036854775807) (hright : rightR (rowOf 31) (allOf ts) nf locals code a b = true) :
    Calls Tryd.prog 60 #[.agg #[.int .i64 31, .int .i64 a, .int .i64 b], .agg #[.slice A ts.length c, .slice F nf d, .int .i64 locals, .int .i64 code]] w (PairPost w 0 1) := by
  have hB0 : Below w.heap.size w ((w.alloc (.cells #[.int .i64 31, .int .i64 a, .int .i64 b] 27)).alloc (.cells #[.slice A ts.length c, .slice F nf d, .int .i64 locals, .int .i64 code] 36)) := below_alloc' (below_alloc' (below_refl w))
  have hb := heap2' w (.cells #[.int .i64 31, .int .i64 a, .int .i64 b] 27) (.cells #[.slice A ts.length c, .slice F nf d, .int .i64 locals, .int .i64 code] 36)
  have hR := right4_calls 31 a b A c ts F nf d locals code _ (hT.below hB0) hok hr
  rw [hright] at hR
  have HN := Lib.hid (fun w => (show Calls Tryd.prog 49 #[.int .i64 31] w fun e w' => e = .returned (.string ⟨#[110, 111, 110, 101]⟩) ∧ Below w.heap.size w w' from name4_calls 31 w))
  have HR := Lib.hid hR
  have HB0 := Lib.hid hB0
  obtain ⟨c0, c1, c2⟩ := cells3' hb.1
  obtain ⟨c3, c4, c5, c6⟩ := cells4' hb.2
  have R1 := Lib.hid hb.1
  clear hR hB0 hb hright hT hok hr
  go_enter Tryd.func60, Tryd.ntmps60
  go_wp2_with fail
  refine HR.out.mono ?_
  rintro e w1 ⟨rfl, hb⟩
  obtain ⟨d0, d1, d2⟩ := cells3' ((hb.block _ (Array.getElem?_eq_some_iff.1 R1.out).1).trans R1.out)
  have HB1 := Lib.hid (below_then HB0.out hb)
  clear hb HR c0 c1 c2 c3 c4 c5 c6
  go_wp2_with fail
  refine (HN.out _).mono ?_
  rintro e w2 ⟨rfl, hb⟩
  have HB2 := Lib.hid (below_then HB1.out hb)
  clear hb HN d0 d1 d2
  go_wp2_with fail
  go_ret2
  exact ⟨rfl, HB2.out⟩
set_option maxHeartbeats 2000000 in
theorem effect4_32 (a b : Int) (A : Option Addr) (c : Nat) (ts : List Ty) (F : Option Addr) (nf d : Nat) (locals code : Int) (w : World) (hT : TySl w A c ts) (hok : tysOk ts) (hr : a ≤ 9223372036854775807) (hright : rightR (rowOf 32) (allOf ts) nf locals code a b = true) :
    Calls Tryd.prog 60 #[.agg #[.int .i64 32, .int .i64 a, .int .i64 b], .agg #[.slice A ts.length c, .slice F nf d, .int .i64 locals, .int .i64 code]] w (PairPost w 1 1) := by
  have hB0 : Below w.heap.size w ((w.alloc (.cells #[.int .i64 32, .int .i64 a, .int .i64 b] 27)).alloc (.cells #[.slice A ts.length c, .slice F nf d, .int .i64 locals, .int .i64 code] 36)) := below_alloc' (below_alloc' (below_refl w))
  have hb := heap2' w (.cells #[.int .i64 32, .int .i64 a, .int .i64 b] 27) (.cells #[.slice A ts.length c, .slice F nf d, .int .i64 locals, .int .i64 code] 36)
  have hR := right4_calls 32 a b A c ts F nf d locals code _ (hT.below hB0) hok hr
  rw [hright] at hR
  have HN := Lib.hid (fun w => (show Calls Tryd.prog 49 #[.int .i64 32] w fun e w' => e = .returned (.string ⟨#[115, 111, 109, 101]⟩) ∧ Below w.heap.size w w' from name4_calls 32 w))
  have HR := Lib.hid hR
  have HB0 := Lib.hid hB0
  obtain ⟨c0, c1, c2⟩ := cells3' hb.1
  obtain ⟨c3, c4, c5, c6⟩ := cells4' hb.2
  have R1 := Lib.hid hb.1
  clear hR hB0 hb hright hT hok hr
  go_enter Tryd.func60, Tryd.ntmps60
  go_wp2_with fail
  refine HR.out.mono ?_
  rintro e w1 ⟨rfl, hb⟩
  obtain ⟨d0, d1, d2⟩ := cells3' ((hb.block _ (Array.getElem?_eq_some_iff.1 R1.out).1).trans R1.out)
  have HB1 := Lib.hid (below_then HB0.out hb)
  clear hb HR c0 c1 c2 c3 c4 c5 c6
  go_wp2_with fail
  refine (HN.out _).mono ?_
  rintro e w2 ⟨rfl, hb⟩
  have HB2 := Lib.hid (below_then HB1.out hb)
  clear hb HN d0 d1 d2
  go_wp2_with fail
  go_ret2
  exact ⟨rfl, HB2.out⟩
set_option maxHeartbeats 2000000 in
theorem effect4_33 (a b : Int) (A : Option Addr) (c : Nat) (ts : List Ty) (F : Option Addr) (nf d : Nat) (locals code : Int) (w : World) (hT : TySl w A c ts) (hok : tysOk ts) (hr : a ≤ 9223372036854775807) (hright : rightR (rowOf 33) (allOf ts) nf locals code a b = true) :
    Calls Tryd.prog 60 #[.agg #[.int .i64 33, .int .i64 a, .int .i64 b], .agg #[.slice A ts.length c, .slice F nf d, .int .i64 locals, .int .i64 code]] w (PairPost w 1 1) := by
  have hB0 : Below w.heap.size w ((w.alloc (.cells #[.int .i64 33, .int .i64 a, .int .i64 b] 27)).alloc (.cells #[.slice A ts.length c, .slice F nf d, .int .i64 locals, .int .i64 code] 36)) := below_alloc' (below_alloc' (below_refl w))
  have hb := heap2' w (.cells #[.int .i64 33, .int .i64 a, .int .i64 b] 27) (.cells #[.slice A ts.length c, .slice F nf d, .int .i64 locals, .int .i64 code] 36)
  have hR := right4_calls 33 a b A c ts F nf d locals code _ (hT.below hB0) hok hr
  rw [hright] at hR
  have HN := Lib.hid (fun w => (show Calls Tryd.prog 49 #[.int .i64 33] w fun e w' => e = .returned (.string ⟨#[105, 115, 110, 111, 110, 101]⟩) ∧ Below w.heap.size w w' from name4_calls 33 w))
  have HR := Lib.hid hR
  have HB0 := Lib.hid hB0
  obtain ⟨c0, c1, c2⟩ := cells3' hb.1
  obtain ⟨c3, c4, c5, c6⟩ := cells4' hb.2
  have R1 := Lib.hid hb.1
  clear hR hB0 hb hright hT hok hr
  go_enter Tryd.func60, Tryd.ntmps60
  go_wp2_with fail
  refine HR.out.mono ?_
  rintro e w1 ⟨rfl, hb⟩
  obtain ⟨d0, d1, d2⟩ := cells3' ((hb.block _ (Array.getElem?_eq_some_iff.1 R1.out).1).trans R1.out)
  have HB1 := Lib.hid (below_then HB0.out hb)
  clear hb HR c0 c1 c2 c3 c4 c5 c6
  go_wp2_with fail
  refine (HN.out _).mono ?_
  rintro e w2 ⟨rfl, hb⟩
  have HB2 := Lib.hid (below_then HB1.out hb)
  clear hb HN d0 d1 d2
  go_wp2_with fail
  go_ret2
  exact ⟨rfl, HB2.out⟩
set_option maxHeartbeats 2000000 in
theorem effect4_34 (a b : Int) (A : Option Addr) (c : Nat) (ts : List Ty) (F : Option Addr) (nf d : Nat) (locals code : Int) (w : World) (hT : TySl w A c ts) (hok : tysOk ts) (hr : a ≤ 9223372036854775807) (hright : rightR (rowOf 34) (allOf ts) nf locals code a b = true) :
    Calls Tryd.prog 60 #[.agg #[.int .i64 34, .int .i64 a, .int .i64 b], .agg #[.slice A ts.length c, .slice F nf d, .int .i64 locals, .int .i64 code]] w (PairPost w 1 1) := by
  have hB0 : Below w.heap.size w ((w.alloc (.cells #[.int .i64 34, .int .i64 a, .int .i64 b] 27)).alloc (.cells #[.slice A ts.length c, .slice F nf d, .int .i64 locals, .int .i64 code] 36)) := below_alloc' (below_alloc' (below_refl w))
  have hb := heap2' w (.cells #[.int .i64 34, .int .i64 a, .int .i64 b] 27) (.cells #[.slice A ts.length c, .slice F nf d, .int .i64 locals, .int .i64 code] 36)
  have hR := right4_calls 34 a b A c ts F nf d locals code _ (hT.below hB0) hok hr
  rw [hright] at hR
  have HN := Lib.hid (fun w => (show Calls Tryd.prog 49 #[.int .i64 34] w fun e w' => e = .returned (.string ⟨#[102, 111, 114, 99, 101]⟩) ∧ Below w.heap.size w w' from name4_calls 34 w))
  have HR := Lib.hid hR
  have HB0 := Lib.hid hB0
  obtain ⟨c0, c1, c2⟩ := cells3' hb.1
  obtain ⟨c3, c4, c5, c6⟩ := cells4' hb.2
  have R1 := Lib.hid hb.1
  clear hR hB0 hb hright hT hok hr
  go_enter Tryd.func60, Tryd.ntmps60
  go_wp2_with fail
  refine HR.out.mono ?_
  rintro e w1 ⟨rfl, hb⟩
  obtain ⟨d0, d1, d2⟩ := cells3' ((hb.block _ (Array.getElem?_eq_some_iff.1 R1.out).1).trans R1.out)
  have HB1 := Lib.hid (below_then HB0.out hb)
  clear hb HR c0 c1 c2 c3 c4 c5 c6
  go_wp2_with fail
  refine (HN.out _).mono ?_
  rintro e w2 ⟨rfl, hb⟩
  have HB2 := Lib.hid (below_then HB1.out hb)
  clear hb HN d0 d1 d2
  go_wp2_with fail
  go_ret2
  exact ⟨rfl, HB2.out⟩
set_option maxHeartbeats 2000000 in
theorem effect4_35 (a b : Int) (A : Option Addr) (c : Nat) (ts : List Ty) (F : Option Addr) (nf d : Nat) (locals code : Int) (w : World) (hT : TySl w A c ts) (hok : tysOk ts) (hr : a ≤ 9223372036854775807) (hright : rightR (rowOf 35) (allOf ts) nf locals code a b = true) :
    Calls Tryd.prog 60 #[.agg #[.int .i64 35, .int .i64 a, .int .i64 b], .agg #[.slice A ts.length c, .slice F nf d, .int .i64 locals, .int .i64 code]] w (PairPost w 1 0) := by
  have hB0 : Below w.heap.size w ((w.alloc (.cells #[.int .i64 35, .int .i64 a, .int .i64 b] 27)).alloc (.cells #[.slice A ts.length c, .slice F nf d, .int .i64 locals, .int .i64 code] 36)) := below_alloc' (below_alloc' (below_refl w))
  have hb := heap2' w (.cells #[.int .i64 35, .int .i64 a, .int .i64 b] 27) (.cells #[.slice A ts.length c, .slice F nf d, .int .i64 locals, .int .i64 code] 36)
  have hR := right4_calls 35 a b A c ts F nf d locals code _ (hT.below hB0) hok hr
  rw [hright] at hR
  have HN := Lib.hid (fun w => (show Calls Tryd.prog 49 #[.int .i64 35] w fun e w' => e = .returned (.string ⟨#[112, 114, 105, 110, 116]⟩) ∧ Below w.heap.size w w' from name4_calls 35 w))
  have HR := Lib.hid hR
  have HB0 := Lib.hid hB0
  obtain ⟨c0, c1, c2⟩ := cells3' hb.1
  obtain ⟨c3, c4, c5, c6⟩ := cells4' hb.2
  have R1 := Lib.hid hb.1
  clear hR hB0 hb hright hT hok hr
  go_enter Tryd.func60, Tryd.ntmps60
  go_wp2_with fail
  refine HR.out.mono ?_
  rintro e w1 ⟨rfl, hb⟩
  obtain ⟨d0, d1, d2⟩ := cells3' ((hb.block _ (Array.getElem?_eq_some_iff.1 R1.out).1).trans R1.out)
  have HB1 := Lib.hid (below_then HB0.out hb)
  clear hb HR c0 c1 c2 c3 c4 c5 c6
  go_wp2_with fail
  refine (HN.out _).mono ?_
  rintro e w2 ⟨rfl, hb⟩
  have HB2 := Lib.hid (below_then HB1.out hb)
  clear hb HN d0 d1 d2
  go_wp2_with fail
  go_ret2
  exact ⟨rfl, HB2.out⟩
set_option maxHeartbeats 2000000 in
theorem effect4_36 (a b : Int) (A : Option Addr) (c : Nat) (ts : List Ty) (F : Option Addr) (nf d : Nat) (locals code : Int) (w : World) (hT : TySl w A c ts) (hok : tysOk ts) (hr : a ≤ 9223372036854775807) (hright : rightR (rowOf 36) (allOf ts) nf locals code a b = true) :
    Calls Tryd.prog 60 #[.agg #[.int .i64 36, .int .i64 a, .int .i64 b], .agg #[.slice A ts.length c, .slice F nf d, .int .i64 locals, .int .i64 code]] w (PairPost w 0 1) := by
  have hB0 : Below w.heap.size w ((w.alloc (.cells #[.int .i64 36, .int .i64 a, .int .i64 b] 27)).alloc (.cells #[.slice A ts.length c, .slice F nf d, .int .i64 locals, .int .i64 code] 36)) := below_alloc' (below_alloc' (below_refl w))
  have hb := heap2' w (.cells #[.int .i64 36, .int .i64 a, .int .i64 b] 27) (.cells #[.slice A ts.length c, .slice F nf d, .int .i64 locals, .int .i64 code] 36)
  have hR := right4_calls 36 a b A c ts F nf d locals code _ (hT.below hB0) hok hr
  rw [hright] at hR
  have HN := Lib.hid (fun w => (show Calls Tryd.prog 49 #[.int .i64 36] w fun e w' => e = .returned (.string ⟨#[114, 101, 97, 100]⟩) ∧ Below w.heap.size w w' from name4_calls 36 w))
  have HR := Lib.hid hR
  have HB0 := Lib.hid hB0
  obtain ⟨c0, c1, c2⟩ := cells3' hb.1
  obtain ⟨c3, c4, c5, c6⟩ := cells4' hb.2
  have R1 := Lib.hid hb.1
  clear hR hB0 hb hright hT hok hr
  go_enter Tryd.func60, Tryd.ntmps60
  go_wp2_with fail
  refine HR.out.mono ?_
  rintro e w1 ⟨rfl, hb⟩
  obtain ⟨d0, d1, d2⟩ := cells3' ((hb.block _ (Array.getElem?_eq_some_iff.1 R1.out).1).trans R1.out)
  have HB1 := Lib.hid (below_then HB0.out hb)
  clear hb HR c0 c1 c2 c3 c4 c5 c6
  go_wp2_with fail
  refine (HN.out _).mono ?_
  rintro e w2 ⟨rfl, hb⟩
  have HB2 := Lib.hid (below_then HB1.out hb)
  clear hb HN d0 d1 d2
  go_wp2_with fail
  go_ret2
  exact ⟨rfl, HB2.out⟩
set_option maxHeartbeats 2000000 in
theorem effect4_37 (a b : Int) (A : Option Addr) (c : Nat) (ts : List Ty) (F : Option Addr) (nf d : Nat) (locals code : Int) (w : World) (hT : TySl w A c ts) (hok : tysOk ts) (hr : a ≤ 9223372036854775807) (hright : rightR (rowOf 37) (allOf ts) nf locals code a b = true) :
    Calls Tryd.prog 60 #[.agg #[.int .i64 37, .int .i64 a, .int .i64 b], .agg #[.slice A ts.length c, .slice F nf d, .int .i64 locals, .int .i64 code]] w (PairPost w 0 0) := by
  have hB0 : Below w.heap.size w ((w.alloc (.cells #[.int .i64 37, .int .i64 a, .int .i64 b] 27)).alloc (.cells #[.slice A ts.length c, .slice F nf d, .int .i64 locals, .int .i64 code] 36)) := below_alloc' (below_alloc' (below_refl w))
  have hb := heap2' w (.cells #[.int .i64 37, .int .i64 a, .int .i64 b] 27) (.cells #[.slice A ts.length c, .slice F nf d, .int .i64 locals, .int .i64 code] 36)
  have hR := right4_calls 37 a b A c ts F nf d locals code _ (hT.below hB0) hok hr
  rw [hright] at hR
  have HN := Lib.hid (fun w => (show Calls Tryd.prog 49 #[.int .i64 37] w fun e w' => e = .returned (.string ⟨#[102, 97, 105, 108]⟩) ∧ Below w.heap.size w w' from name4_calls 37 w))
  have HR := Lib.hid hR
  have HB0 := Lib.hid hB0
  obtain ⟨c0, c1, c2⟩ := cells3' hb.1
  obtain ⟨c3, c4, c5, c6⟩ := cells4' hb.2
  have R1 := Lib.hid hb.1
  clear hR hB0 hb hright hT hok hr
  go_enter Tryd.func60, Tryd.ntmps60
  go_wp2_with fail
  refine HR.out.mono ?_
  rintro e w1 ⟨rfl, hb⟩
  obtain ⟨d0, d1, d2⟩ := cells3' ((hb.block _ (Array.getElem?_eq_some_iff.1 R1.out).1).trans R1.out)
  have HB1 := Lib.hid (below_then HB0.out hb)
  clear hb HR c0 c1 c2 c3 c4 c5 c6
  go_wp2_with fail
  refine (HN.out _).mono ?_
  rintro e w2 ⟨rfl, hb⟩
  have HB2 := Lib.hid (below_then HB1.out hb)
  clear hb HN d0 d1 d2
  go_wp2_with fail
  go_ret2
  exact ⟨rfl, HB2.out⟩
end Go.Proofs.YtdilmfnijkjiaaaDoor.K
