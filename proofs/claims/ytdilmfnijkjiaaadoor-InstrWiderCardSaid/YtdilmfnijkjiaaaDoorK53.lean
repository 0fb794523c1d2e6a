import Derived.Test.YtdilmfnijkjiaaaDoorK52
import Derived.Test.YtdilmfnijkjiaaaDoorK24
set_option maxRecDepth 100000
set_option linter.unusedSimpArgs false
set_option linter.unusedVariables false
namespace Go.Proofs.YtdilmfnijkjiaaaDoor.K
open Go.RowKit
def IntPost (w : World) (n : Int) (e : Ending) (w' : World) : Prop := e = .returned (.int .i64 n) ∧ Below w.heap.size w w'
set_option maxHeartbeats 2000000 in
theorem form4_0 (w : World) : Calls Tryd.prog 50 #[.int .i64 (0 : Int)] w (IntPost w (rowOf (0 : Int)).form) := by
  have HN := Lib.hid (show Calls Tryd.prog 49 #[.int .i64 (0 : Int)] w fun e w' => e = .returned (.string ⟨#[110, 111, 112]⟩) ∧ Below w.heap.size w w' from name4_calls (0 : Int) w)
  go_enter Tryd.func50, Tryd.ntmps50
  go_wp2_with fail
  refine HN.out.mono ?_
  rintro e w1 ⟨rfl, hb⟩
  have HB := Lib.hid hb
  clear hb HN
  go_wp2_with fail
  all_goals go_ret
  all_goals exact ⟨rfl, HB.out⟩
set_option maxHeartbeats 2000000 in
theorem form4_1 (w : World) : Calls Tryd.prog 50 #[.int .i64 (1 : Int)] w (IntPost w (rowOf (1 : Int)).form) := by
  have HN := Lib.hid (show Calls Tryd.prog 49 #[.int .i64 (1 : Int)] w fun e w' => e = .returned (.string ⟨#[105, 110, 116]⟩) ∧ Below w.heap.size w w' from name4_calls (1 : Int) w)
  go_enter Tryd.func50, Tryd.ntmps50
  go_wp2_with fail
  refine HN.out.mono ?_
  rintro e w1 ⟨rfl, hb⟩
  have HB := Lib.hid hb
  clear hb HN
  go_wp2_with fail
  all_goals go_ret
  all_goals exact ⟨rfl, HB.out⟩
set_option maxHeartbeats 2000000 in
theorem form4_2 (w : World) : Calls Tryd.prog 50 #[.int .i64 (2 : Int)] w (IntPost w (rowOf (2 : Int)).form) := by
  have HN := Lib.hid (show Calls Tryd.prog 49 #[.int .i64 (2 : Int)] w fun e w' => e = .returned (.string ⟨#[98, 111, 111, 108]⟩) ∧ Below w.heap.size w w' from name4_calls (2 : Int) w)
  go_enter Tryd.func50, Tryd.ntmps50
  go_wp2_with fail
  refine HN.out.mono ?_
  rintro e w1 ⟨rfl, hb⟩
  have HB := Lib.hid hb
  clear hb HN
  go_wp2_with fail
  all_goals go_ret
  all_goals exact ⟨rfl, HB.out⟩
set_option maxHeartbeats 2000000 in
theorem form4_3 (w : World) : Calls Tryd.prog 50 #[.int .i64 (3 : Int)] w (IntPost w (rowOf (3 : Int)).form) := by
  have HN := Lib.hid (show Calls Tryd.prog 49 #[.int .i64 (3 : Int)] w fun e w' => e = .returned (.string ⟨#[103, 101, 116]⟩) ∧ Below w.heap.size w w' from name4_calls (3 : Int) w)
  go_enter Tryd.func50, Tryd.ntmps50
  go_wp2_with fail
  refine HN.out.mono ?_
  rintro e w1 ⟨rfl, hb⟩
  have HB := Lib.hid hb
  clear hb HN
  go_wp2_with fail
  all_goals go_ret
  all_goals exact ⟨rfl, HB.out⟩
set_option maxHeartbeats 2000000 in
theorem form4_4 (w : World) : Calls Tryd.prog 50 #[.int .i64 (4 : Int)] w (IntPost w (rowOf (4 : Int)).form) := by
  have HN := Lib.hid (show Calls Tryd.prog 49 #[.int .i64 (4 : Int)] w fun e w' => e = .returned (.string ⟨#[115, 101, 116]⟩) ∧ Below w.heap.size w w' from name4_calls (4 : Int) w)
  go_enter Tryd.func50, Tryd.ntmps50
  go_wp2_with fail
  refine HN.out.mono ?_
  rintro e w1 ⟨rfl, hb⟩
  have HB := Lib.hid hb
  clear hb HN
  go_wp2_with fail
  all_goals go_ret
  all_goals exact ⟨rfl, HB.out⟩
set_option maxHeartbeats 2000000 in
theorem form4_5 (w : World) : Calls Tryd.prog 50 #[.int .i64 (5 : Int)] w (IntPost w (rowOf (5 : Int)).form) := by
  have HN := Lib.hid (show Calls Tryd.prog 49 #[.int .i64 (5 : Int)] w fun e w' => e = .returned (.string ⟨#[100, 114, 111, 112]⟩) ∧ Below w.heap.size w w' from name4_calls (5 : Int) w)
  go_enter Tryd.func50, Tryd.ntmps50
  go_wp2_with fail
  refine HN.out.mono ?_
  rintro e w1 ⟨rfl, hb⟩
  have HB := Lib.hid hb
  clear hb HN
  go_wp2_with fail
  all_goals go_ret
  all_goals exact ⟨rfl, HB.out⟩
set_option maxHeartbeats 2000000 in
theorem form4_6 (w : World) : Calls Tryd.prog 50 #[.int .i64 (6 : Int)] w (IntPost w (rowOf (6 : Int)).form) := by
  have HN := Lib.hid (show Calls Tryd.prog 49 #[.int .i64 (6 : Int)] w fun e w' => e = .returned (.string ⟨#[100, 117, 112]⟩) ∧ Below w.heap.size w w' from name4_calls (6 : Int) w)
  go_enter Tryd.func50, Tryd.ntmps50
  go_wp2_with fail
  refine HN.out.mono ?_
  rintro e w1 ⟨rfl, hb⟩
  have HB := Lib.hid hb
  clear hb HN
  go_wp2_with fail
  all_goals go_ret
  all_goals exact ⟨rfl, HB.out⟩
set_option maxHeartbeats 2000000 in
theorem form4_7 (w : World) : Calls Tryd.prog 50 #[.int .i64 (7 : Int)] w (IntPost w (rowOf (7 : Int)).form) := by
  have HN := Lib.hid (show Calls Tryd.prog 49 #[.int .i64 (7 : Int)] w fun e w' => e = .returned (.string ⟨#[115, 119, 97, 112]⟩) ∧ Below w.heap.size w w' from name4_calls (7 : Int) w)
  go_enter Tryd.func50, Tryd.ntmps50
  go_wp2_with fail
  refine HN.out.mono ?_
  rintro e w1 ⟨rfl, hb⟩
  have HB := Lib.hid hb
  clear hb HN
  go_wp2_with fail
  all_goals go_ret
  all_goals exact ⟨rfl, HB.out⟩
set_option maxHeartbeats 2000000 in
theorem form4_8 (w : World) : Calls Tryd.prog 50 #[.int .i64 (8 : Int)] w (IntPost w (rowOf (8 : Int)).form) := by
  have HN := Lib.hid (show Calls Tryd.prog 49 #[.int .i64 (8 : Int)] w fun e w' => e = .returned (.string ⟨#[97, 100, 100]⟩) ∧ Below w.heap.size w w' from name4_calls (8 : Int) w)
  go_enter Tryd.func50, Tryd.ntmps50
  go_wp2_with fail
  refine HN.out.mono ?_
  rintro e w1 ⟨rfl, hb⟩
  have HB := Lib.hid hb
  clear hb HN
  go_wp2_with fail
  all_goals go_ret
  all_goals exact ⟨rfl, HB.out⟩
set_option maxHeartbeats 2000000 in
theorem form4_9 (w : World) : Calls Tryd.prog 50 #[.int .i64 (9 : Int)] w (IntPost w (rowOf (9 : Int)).form) := by
  have HN := Lib.hid (show Calls Tryd.prog 49 #[.int .i64 (9 : Int)] w fun e w' => e = .returned (.string ⟨#[115, 117, 98]⟩) ∧ Below w.heap.size w w' from name4_calls (9 : Int) w)
  go_enter Tryd.func50, Tryd.ntmps50
  go_wp2_with fail
  refine HN.out.mono ?_
  rintro e w1 ⟨rfl, hb⟩
  have HB := Lib.hid hb
  clear hb HN
  go_wp2_with fail
  all_goals go_ret
  all_goals exact ⟨rfl, HB.out⟩
set_option maxHeartbeats 2000000 in
theorem form4_10 (w : World) : Calls Tryd.prog 50 #[.int .i64 (10 : Int)] w (IntPost w (rowOf (10 : Int)).form) := by
  have HN := Lib.hid (show Calls Tryd.prog 49 #[.int .i64 (10 : Int)] w fun e w' => e = .returned (.string ⟨#[109, 117, 108]⟩) ∧ Below w.heap.size w w' from name4_calls (10 : Int) w)
  go_enter Tryd.func50, Tryd.ntmps50
  go_wp2_with fail
  refine HN.out.mono ?_
  rintro e w1 ⟨rfl, hb⟩
  have HB := Lib.hid hb
  clear hb HN
  go_wp2_with fail
  all_goals go_ret
  all_goals exact ⟨rfl, HB.out⟩
set_option maxHeartbeats 2000000 in
theorem form4_11 (w : World) : Calls Tryd.prog 50 #[.int .i64 (11 : Int)] w (IntPost w (rowOf (11 : Int)).form) := by
  have HN := Lib.hid (show Calls Tryd.prog 49 #[.int .i64 (11 : Int)] w fun e w' => e = .returned (.string ⟨#[100, 105, 118]⟩) ∧ Below w.heap.size w w' from name4_calls (11 : Int) w)
  go_enter Tryd.func50, Tryd.ntmps50
  go_wp2_with fail
  refine HN.out.mono ?_
  rintro e w1 ⟨rfl, hb⟩
  have HB := Lib.hid hb
  clear hb HN
  go_wp2_with fail
  all_goals go_ret
  all_goals exact ⟨rfl, HB.out⟩
set_option maxHeartbeats 2000000 in
theorem form4_12 (w : World) : Calls Tryd.prog 50 #[.int .i64 (12 : Int)] w (IntPost w (rowOf (12 : Int)).form) := by
  have HN := Lib.hid (show Calls Tryd.prog 49 #[.int .i64 (12 : Int)] w fun e w' => e = .returned (.string ⟨#[114, 101, 109]⟩) ∧ Below w.heap.size w w' from name4_calls (12 : Int) w)
  go_enter Tryd.func50, Tryd.ntmps50
  go_wp2_with fail
  refine HN.out.mono ?_
  rintro e w1 ⟨rfl, hb⟩
  have HB := Lib.hid hb
  clear hb HN
  go_wp2_with fail
  all_goals go_ret
  all_goals exact ⟨rfl, HB.out⟩
set_option maxHeartbeats 2000000 in
theorem form4_13 (w : World) : Calls Tryd.prog 50 #[.int .i64 (13 : Int)] w (IntPost w (rowOf (13 : Int)).form) := by
  have HN := Lib.hid (show Calls Tryd.prog 49 #[.int .i64 (13 : Int)] w fun e w' => e = .returned (.string ⟨#[108, 101, 115, 115]⟩) ∧ Below w.heap.size w w' from name4_calls (13 : Int) w)
  go_enter Tryd.func50, Tryd.ntmps50
  go_wp2_with fail
  refine HN.out.mono ?_
  rintro e w1 ⟨rfl, hb⟩
  have HB := Lib.hid hb
  clear hb HN
  go_wp2_with fail
  all_goals go_ret
  all_goals exact ⟨rfl, HB.out⟩
set_option maxHeartbeats 2000000 in
theorem form4_14 (w : World) : Calls Tryd.prog 50 #[.int .i64 (14 : Int)] w (IntPost w (rowOf (14 : Int)).form) := by
  have HN := Lib.hid (show Calls Tryd.prog 49 #[.int .i64 (14 : Int)] w fun e w' => e = .returned (.string ⟨#[115, 97, 109, 101]⟩) ∧ Below w.heap.size w w' from name4_calls (14 : Int) w)
  go_enter Tryd.func50, Tryd.ntmps50
  go_wp2_with fail
  refine HN.out.mono ?_
  rintro e w1 ⟨rfl, hb⟩
  have HB := Lib.hid hb
  clear hb HN
  go_wp2_with fail
  all_goals go_ret
  all_goals exact ⟨rfl, HB.out⟩
set_option maxHeartbeats 2000000 in
theorem form4_15 (w : World) : Calls Tryd.prog 50 #[.int .i64 (15 : Int)] w (IntPost w (rowOf (15 : Int)).form) := by
  have HN := Lib.hid (show Calls Tryd.prog 49 #[.int .i64 (15 : Int)] w fun e w' => e = .returned (.string ⟨#[110, 111, 116]⟩) ∧ Below w.heap.size w w' from name4_calls (15 : Int) w)
  go_enter Tryd.func50, Tryd.ntmps50
  go_wp2_with fail
  refine HN.out.mono ?_
  rintro e w1 ⟨rfl, hb⟩
  have HB := Lib.hid hb
  clear hb HN
  go_wp2_with fail
  all_goals go_ret
  all_goals exact ⟨rfl, HB.out⟩
set_option maxHeartbeats 2000000 in
theorem form4_16 (w : World) : Calls Tryd.prog 50 #[.int .i64 (16 : Int)] w (IntPost w (rowOf (16 : Int)).form) := by
  have HN := Lib.hid (show Calls Tryd.prog 49 #[.int .i64 (16 : Int)] w fun e w' => e = .returned (.string ⟨#[97, 110, 100]⟩) ∧ Below w.heap.size w w' from name4_calls (16 : Int) w)
  go_enter Tryd.func50, Tryd.ntmps50
  go_wp2_with fail
  refine HN.out.mono ?_
  rintro e w1 ⟨rfl, hb⟩
  have HB := Lib.hid hb
  clear hb HN
  go_wp2_with fail
  all_goals go_ret
  all_goals exact ⟨rfl, HB.out⟩
set_option maxHeartbeats 2000000 in
theorem form4_17 (w : World) : Calls Tryd.prog 50 #[.int .i64 (17 : Int)] w (IntPost w (rowOf (17 : Int)).form) := by
  have HN := Lib.hid (show Calls Tryd.prog 49 #[.int .i64 (17 : Int)] w fun e w' => e = .returned (.string ⟨#[111, 114]⟩) ∧ Below w.heap.size w w' from name4_calls (17 : Int) w)
  go_enter Tryd.func50, Tryd.ntmps50
  go_wp2_with fail
  refine HN.out.mono ?_
  rintro e w1 ⟨rfl, hb⟩
  have HB := Lib.hid hb
  clear hb HN
  go_wp2_with fail
  all_goals go_ret
  all_goals exact ⟨rfl, HB.out⟩
set_option maxHeartbeats 2000000 in
theorem form4_18 (w : World) : Calls Tryd.prog 50 #[.int .i64 (18 : Int)] w (IntPost w (rowOf (18 : Int)).form) := by
  have HN := Lib.hid (show Calls Tryd.prog 49 #[.int .i64 (18 : Int)] w fun e w' => e = .returned (.string ⟨#[106, 117, 109, 112]⟩) ∧ Below w.heap.size w w' from name4_calls (18 : Int) w)
  go_enter Tryd.func50, Tryd.ntmps50
  go_wp2_with fail
  refine HN.out.mono ?_
  rintro e w1 ⟨rfl, hb⟩
  have HB := Lib.hid hb
  clear hb HN
  go_wp2_with fail
  all_goals go_ret
  all_goals exact ⟨rfl, HB.out⟩
set_option maxHeartbeats 2000000 in
theorem form4_19 (w : World) : Calls Tryd.prog 50 #[.int .i64 (19 : Int)] w (IntPost w (rowOf (19 : Int)).form) := by
  have HN := Lib.hid (show Calls Tryd.prog 49 #[.int .i64 (19 : Int)] w fun e w' => e = .returned (.string ⟨#[117, 110, 108, 101, 115, 115]⟩) ∧ Below w.heap.size w w' from name4_calls (19 : Int) w)
  go_enter Tryd.func50, Tryd.ntmps50
  go_wp2_with fail
  refine HN.out.mono ?_
  rintro e w1 ⟨rfl, hb⟩
  have HB := Lib.hid hb
  clear hb HN
  go_wp2_with fail
  all_goals go_ret
  all_goals exact ⟨rfl, HB.out⟩
set_option maxHeartbeats 2000000 in
theorem form4_20 (w : World) : Calls Tryd.prog 50 #[.int .i64 (20 : Int)] w (IntPost w (rowOf (20 : Int)).form) := by
  have HN := Lib.hid (show Calls Tryd.prog 49 #[.int .i64 (20 : Int)] w fun e w' => e = .returned (.string ⟨#[99, 97, 108, 108]⟩) ∧ Below w.heap.size w w' from name4_calls (20 : Int) w)
  go_enter Tryd.func50, Tryd.ntmps50
  go_wp2_with fail
  refine HN.out.mono ?_
  rintro e w1 ⟨rfl, hb⟩
  have HB := Lib.hid hb
  clear hb HN
  go_wp2_with fail
  all_goals go_ret
  all_goals exact ⟨rfl, HB.out⟩
set_option maxHeartbeats 2000000 in
theorem form4_21 (w : World) : Calls Tryd.prog 50 #[.int .i64 (21 : Int)] w (IntPost w (rowOf (21 : Int)).form) := by
  have HN := Lib.hid (show Calls Tryd.prog 49 #[.int .i64 (21 : Int)] w fun e w' => e = .returned (.string ⟨#[114, 101, 116]⟩) ∧ Below w.heap.size w w' from name4_calls (21 : Int) w)
  go_enter Tryd.func50, Tryd.ntmps50
  go_wp2_with fail
  refine HN.out.mono ?_
  rintro e w1 ⟨rfl, hb⟩
  have HB := Lib.hid hb
  clear hb HN
  go_wp2_with fail
  all_goals go_ret
  all_goals exact ⟨rfl, HB.out⟩
set_option maxHeartbeats 2000000 in
theorem form4_22 (w : World) : Calls Tryd.prog 50 #[.int .i64 (22 : Int)] w (IntPost w (rowOf (22 : Int)).form) := by
  have HN := Lib.hid (show Calls Tryd.prog 49 #[.int .i64 (22 : Int)] w fun e w' => e = .returned (.string ⟨#[114, 101, 99, 111, 114, 100]⟩) ∧ Below w.heap.size w w' from name4_calls (22 : Int) w)
  go_enter Tryd.func50, Tryd.ntmps50
  go_wp2_with fail
  refine HN.out.mono ?_
  rintro e w1 ⟨rfl, hb⟩
  have HB := Lib.hid hb
  clear hb HN
  go_wp2_with fail
  all_goals go_ret
  all_goals exact ⟨rfl, HB.out⟩
set_option maxHeartbeats 2000000 in
theorem form4_23 (w : World) : Calls Tryd.prog 50 #[.int .i64 (23 : Int)] w (IntPost w (rowOf (23 : Int)).form) := by
  have HN := Lib.hid (show Calls Tryd.prog 49 #[.int .i64 (23 : Int)] w fun e w' => e = .returned (.string ⟨#[102, 105, 101, 108, 100]⟩) ∧ Below w.heap.size w w' from name4_calls (23 : Int) w)
  go_enter Tryd.func50, Tryd.ntmps50
  go_wp2_with fail
  refine HN.out.mono ?_
  rintro e w1 ⟨rfl, hb⟩
  have HB := Lib.hid hb
  clear hb HN
  go_wp2_with fail
  all_goals go_ret
  all_goals exact ⟨rfl, HB.out⟩
set_option maxHeartbeats 2000000 in
theorem form4_24 (w : World) : Calls Tryd.prog 50 #[.int .i64 (24 : Int)] w (IntPost w (rowOf (24 : Int)).form) := by
  have HN := Lib.hid (show Calls Tryd.prog 49 #[.int .i64 (24 : Int)] w fun e w' => e = .returned (.string ⟨#[115, 116, 111, 114, 101]⟩) ∧ Below w.heap.size w w' from name4_calls (24 : Int) w)
  go_enter Tryd.func50, Tryd.ntmps50
  go_wp2_with fail
  refine HN.out.mono ?_
  rintro e w1 ⟨rfl, hb⟩
  have HB := Lib.hid hb
  clear hb HN
  go_wp2_with fail
  all_goals go_ret
  all_goals exact ⟨rfl, HB.out⟩
set_option maxHeartbeats 2000000 in
theorem form4_25 (w : World) : Calls Tryd.prog 50 #[.int .i64 (25 : Int)] w (IntPost w (rowOf (25 : Int)).form) := by
  have HN := Lib.hid (show Calls Tryd.prog 49 #[.int .i64 (25 : Int)] w fun e w' => e = .returned (.string ⟨#[97, 114, 114, 97, 121]⟩) ∧ Below w.heap.size w w' from name4_calls (25 : Int) w)
  go_enter Tryd.func50, Tryd.ntmps50
  go_wp2_with fail
  refine HN.out.mono ?_
  rintro e w1 ⟨rfl, hb⟩
  have HB := Lib.hid hb
  clear hb HN
  go_wp2_with fail
  all_goals go_ret
  all_goals exact ⟨rfl, HB.out⟩
set_option maxHeartbeats 2000000 in
theorem form4_26 (w : World) : Calls Tryd.prog 50 #[.int .i64 (26 : Int)] w (IntPost w (rowOf (26 : Int)).form) := by
  have HN := Lib.hid (show Calls Tryd.prog 49 #[.int .i64 (26 : Int)] w fun e w' => e = .returned (.string ⟨#[108, 111, 97, 100]⟩) ∧ Below w.heap.size w w' from name4_calls (26 : Int) w)
  go_enter Tryd.func50, Tryd.ntmps50
  go_wp2_with fail
  refine HN.out.mono ?_
  rintro e w1 ⟨rfl, hb⟩
  have HB := Lib.hid hb
  clear hb HN
  go_wp2_with fail
  all_goals go_ret
  all_goals exact ⟨rfl, HB.out⟩
set_option maxHeartbeats 2000000 in
theorem form4_27 (w : World) : Calls Tryd.prog 50 #[.int .i64 (27 : Int)] w (IntPost w (rowOf (27 : Int)).form) := by
  have HN := Lib.hid (show Calls Tryd.prog 49 #[.int .i64 (27 : Int)] w fun e w' => e = .returned (.string ⟨#[112, 117, 116]⟩) ∧ Below w.heap.size w w' from name4_calls (27 : Int) w)
  go_enter Tryd.func50, Tryd.ntmps50
  go_wp2_with fail
  refine HN.out.mono ?_
  rintro e w1 ⟨rfl, hb⟩
  have HB := Lib.hid hb
  clear hb HN
  go_wp2_with fail
  all_goals go_ret
  all_goals exact ⟨rfl, HB.out⟩
set_option maxHeartbeats 2000000 in
theorem form4_28 (w : World) : Calls Tryd.prog 50 #[.int .i64 (28 : Int)] w (IntPost w (rowOf (28 : Int)).form) := by
  have HN := Lib.hid (show Calls Tryd.prog 49 #[.int .i64 (28 : Int)] w fun e w' => e = .returned (.string ⟨#[115, 105, 122, 101]⟩) ∧ Below w.heap.size w w' from name4_calls (28 : Int) w)
  go_enter Tryd.func50, Tryd.ntmps50
  go_wp2_with fail
  refine HN.out.mono ?_
  rintro e w1 ⟨rfl, hb⟩
  have HB := Lib.hid hb
  clear hb HN
  go_wp2_with fail
  all_goals go_ret
  all_goals exact ⟨rfl, HB.out⟩
set_option maxHeartbeats 2000000 in
theorem form4_29 (w : World) : Calls Tryd.prog 50 #[.int .i64 (29 : Int)] w (IntPost w (rowOf (29 : Int)).form) := by
  have HN := Lib.hid (show Calls Tryd.prog 49 #[.int .i64 (29 : Int)] w fun e w' => e = .returned (.string ⟨#[99, 108, 111, 115, 117, 114, 101]⟩) ∧ Below w.heap.size w w' from name4_calls (29 : Int) w)
  go_enter Tryd.func50, Tryd.ntmps50
  go_wp2_with fail
  refine HN.out.mono ?_
  rintro e w1 ⟨rfl, hb⟩
  have HB := Lib.hid hb
  clear hb HN
  go_wp2_with fail
  all_goals go_ret
  all_goals exact ⟨rfl, HB.out⟩
set_option maxHeartbeats 2000000 in
theorem form4_30 (w : World) : Calls Tryd.prog 50 #[.int .i64 (30 : Int)] w (IntPost w (rowOf (30 : Int)).form) := by
  have HN := Lib.hid (show Calls Tryd.prog 49 #[.int .i64 (30 : Int)] w fun e w' => e = .returned (.string ⟨#[97, 112, 112, 108, 121]⟩) ∧ Below w.heap.size w w' from name4_calls (30 : Int) w)
  go_enter Tryd.func50, Tryd.ntmps50
  go_wp2_with fail
  refine HN.out.mono ?_
  rintro e w1 ⟨rfl, hb⟩
  have HB := Lib.hid hb
  clear hb HN
  go_wp2_with fail
  all_goals go_ret
  all_goals exact ⟨rfl, HB.out⟩
set_option maxHeartbeats 2000000 in
theorem form4_31 (w : World) : Calls Tryd.prog 50 #[.int .i64 (31 : Int)] w (IntPost w (rowOf (31 : Int)).form) := by
  have HN := Lib.hid (show Calls Tryd.prog 49 #[.int .i64 (31 : Int)] w fun e w' => e = .returned (.string ⟨#[110, 111, 110, 101]⟩) ∧ Below w.heap.size w w' from name4_calls (31 : Int) w)
  go_enter Tryd.func50, Tryd.ntmps50
  go_wp2_with fail
  refine HN.out.mono ?_
  rintro e w1 ⟨rfl, hb⟩
  have HB := Lib.hid hb
  clear hb HN
  go_wp2_with fail
  all_goals go_ret
  all_goals exact ⟨rfl, HB.out⟩
set_option maxHeartbeats 2000000 in
theorem form4_32 (w : World) : Calls Tryd.prog 50 #[.int .i64 (32 : Int)] w (IntPost w (rowOf (32 : Int)).form) := by
  have HN := Lib.hid (show Calls Tryd.prog 49 #[.int .i64 (32 : Int)] w fun e w' => e = .returned (.string ⟨#[115, 111, 109, 101]⟩) ∧ Below w.heap.size w w' from name4_calls (32 : Int) w)
  go_enter Tryd.func50, Tryd.ntmps50
  go_wp2_with fail
  refine HN.out.mono ?_
  rintro e w1 ⟨rfl, hb⟩
  have HB := Lib.hid hb
  clear hb HN
  go_wp2_with fail
  all_goals go_ret
  all_goals exact ⟨rfl, HB.out⟩
set_option maxHeartbeats 2000000 in
theorem form4_33 (w : World) : Calls Tryd.prog 50 #[.int .i64 (33 : Int)] w (IntPost w (rowOf (33 : Int)).form) := by
  have HN := Lib.hid (show Calls Tryd.prog 49 #[.int .i64 (33 : Int)] w fun e w' => e = .returned (.string ⟨#[105, 115, 110, 111, 110, 101]⟩) ∧ Below w.heap.size w w' from name4_calls (33 : Int) w)
  go_enter Tryd.func50, Tryd.ntmps50
  go_wp2_with fail
  refine HN.out.mono ?_
  rintro e w1 ⟨rfl, hb⟩
  have HB := Lib.hid hb
  clear hb HN
  go_wp2_with fail
  all_goals go_ret
  all_goals exact ⟨rfl, HB.out⟩
set_option maxHeartbeats 2000000 in
theorem form4_34 (w : World) : Calls Tryd.prog 50 #[.int .i64 (34 : Int)] w (IntPost w (rowOf (34 : Int)).form) := by
  have HN := Lib.hid (show Calls Tryd.prog 49 #[.int .i64 (34 : Int)] w fun e w' => e = .returned (.string ⟨#[102, 111, 114, 99, 101]⟩) ∧ Below w.heap.size w w' from name4_calls (34 : Int) w)
  go_enter Tryd.func50, Tryd.ntmps50
  go_wp2_with fail
  refine HN.out.mono ?_
  rintro e w1 ⟨rfl, hb⟩
  have HB := Lib.hid hb
  clear hb HN
  go_wp2_with fail
  all_goals go_ret
  all_goals exact ⟨rfl, HB.out⟩
set_option maxHeartbeats 2000000 in
theorem form4_35 (w : World) : Calls Tryd.prog 50 #[.int .i64 (35 : Int)] w (IntPost w (rowOf (35 : Int)).form) := by
  have HN := Lib.hid (show Calls Tryd.prog 49 #[.int .i64 (35 : Int)] w fun e w' => e = .returned (.string ⟨#[112, 114, 105, 110, 116]⟩) ∧ Below w.heap.size w w' from name4_calls (35 : Int) w)
  go_enter Tryd.func50, Tryd.ntmps50
  go_wp2_with fail
  refine HN.out.mono ?_
  rintro e w1 ⟨rfl, hb⟩
  have HB := Lib.hid hb
  clear hb HN
  go_wp2_with fail
  all_goals go_ret
  all_goals exact ⟨rfl, HB.out⟩
set_option maxHeartbeats 2000000 in
theorem form4_36 (w : World) : Calls Tryd.prog 50 #[.int .i64 (36 : Int)] w (IntPost w (rowOf (36 : Int)).form) := by
  have HN := Lib.hid (show Calls Tryd.prog 49 #[.int .i64 (36 : Int)] w fun e w' => e = .returned (.string ⟨#[114, 101, 97, 100]⟩) ∧ Below w.heap.size w w' from name4_calls (36 : Int) w)
  go_enter Tryd.func50, Tryd.ntmps50
  go_wp2_with fail
  refine HN.out.mono ?_
  rintro e w1 ⟨rfl, hb⟩
  have HB := Lib.hid hb
  clear hb HN
  go_wp2_with fail
  all_goals go_ret
  all_goals exact ⟨rfl, HB.out⟩
set_option maxHeartbeats 2000000 in
theorem form4_37 (w : World) : Calls Tryd.prog 50 #[.int .i64 (37 : Int)] w (IntPost w (rowOf (37 : Int)).form) := by
  have HN := Lib.hid (show Calls Tryd.prog 49 #[.int .i64 (37 : Int)] w fun e w' => e = .returned (.string ⟨#[102, 97, 105, 108]⟩) ∧ Below w.heap.size w w' from name4_calls (37 : Int) w)
  go_enter Tryd.func50, Tryd.ntmps50
  go_wp2_with fail
  refine HN.out.mono ?_
  rintro e w1 ⟨rfl, hb⟩
  have HB := Lib.hid hb
  clear hb HN
  go_wp2_with fail
  all_goals go_ret
  all_goals exact ⟨rfl, HB.out⟩
set_option maxHeartbeats 2000000 in
theorem form4_no (op : Int) (hin : ¬ (0 ≤ op ∧ op < 38)) (w : World) : Calls Tryd.prog 50 #[.int .i64 op] w (IntPost w (rowOf op).form) := by
  have HN := Lib.hid (show Calls Tryd.prog 49 #[.int .i64 op] w fun e w' => e = .returned (.string ⟨#[]⟩) ∧ Below w.heap.size w w' from by have k := name4_calls op w; unfold NamePost nameOf at k; rw [show rowOf op = ⟨⟨#[]⟩, -1, -1, 0, 0, false⟩ by unfold rowOf; rw [if_neg hin]] at k; exact k)
  go_enter Tryd.func50, Tryd.ntmps50
  go_wp2_with fail
  refine HN.out.mono ?_
  rintro e w1 ⟨rfl, hb⟩
  have HB := Lib.hid hb
  clear hb HN
  go_wp2_with fail
  all_goals go_ret
  all_goals exact ⟨by rw [show rowOf op = ⟨⟨#[]⟩, -1, -1, 0, 0, false⟩ by unfold rowOf; rw [if_neg hin]]; rfl, HB.out⟩
theorem form4_calls (op : Int) (w : World) : Calls Tryd.prog 50 #[.int .i64 op] w (IntPost w (rowOf op).form) := by
  by_cases hin : 0 ≤ op ∧ op < 38
  · rcases op_cases hin.1 hin.2 with rfl | rfl | rfl | rfl | rfl | rfl | rfl | rfl | rfl | rfl | rfl | rfl | rfl | rfl | rfl | rfl | rfl | rfl | rfl | rfl | rfl | rfl | rfl | rfl | rfl | rfl | rfl | rfl | rfl | rfl | rfl | rfl | rfl | rfl | rfl | rfl | rfl | rfl
    · exact form4_0 w
    · exact form4_1 w
    · exact form4_2 w
    · exact form4_3 w
    · exact form4_4 w
    · exact form4_5 w
    · exact form4_6 w
    · exact form4_7 w
    · exact form4_8 w
    · exact form4_9 w
    · exact form4_10 w
    · exact form4_11 w
    · exact form4_12 w
    · exact form4_13 w
    · exact form4_14 w
    · exact form4_15 w
    · exact form4_16 w
    · exact form4_17 w
    · exact form4_18 w
    · exact form4_19 w
    · exact form4_20 w
    · exact form4_21 w
    · exact form4_22 w
    · exact form4_23 w
    · exact form4_24 w
    · exact form4_25 w
    · exact form4_26 w
    · exact form4_27 w
    · exact form4_28 w
    · exact form4_29 w
    · exact form4_30 w
    · exact form4_31 w
    · exact form4_32 w
    · exact form4_33 w
    · exact form4_34 w
    · exact form4_35 w
    · exact form4_36 w
    · exact form4_37 w
  · exact form4_no op hin w
set_option maxHeartbeats 2000000 in
theorem kind4_0 (w : World) : Calls Tryd.prog 52 #[.int .i64 (0 : Int)] w (IntPost w (rowOf (0 : Int)).kind) := by
  have HN := Lib.hid (show Calls Tryd.prog 49 #[.int .i64 (0 : Int)] w fun e w' => e = .returned (.string ⟨#[110, 111, 112]⟩) ∧ Below w.heap.size w w' from name4_calls (0 : Int) w)
  go_enter Tryd.func52, Tryd.ntmps52
  go_wp2_with fail
  refine HN.out.mono ?_
  rintro e w1 ⟨rfl, hb⟩
  have HB := Lib.hid hb
  clear hb HN
  go_wp2_with fail
  all_goals go_ret
  all_goals exact ⟨rfl, HB.out⟩
set_option maxHeartbeats 2000000 in
theorem kind4_1 (w : World) : Calls Tryd.prog 52 #[.int .i64 (1 : Int)] w (IntPost w (rowOf (1 : Int)).kind) := by
  have HN := Lib.hid (show Calls Tryd.prog 49 #[.int .i64 (1 : Int)] w fun e w' => e = .returned (.string ⟨#[105, 110, 116]⟩) ∧ Below w.heap.size w w' from name4_calls (1 : Int) w)
  go_enter Tryd.func52, Tryd.ntmps52
  go_wp2_with fail
  refine HN.out.mono ?_
  rintro e w1 ⟨rfl, hb⟩
  have HB := Lib.hid hb
  clear hb HN
  go_wp2_with fail
  all_goals go_ret
  all_goals exact ⟨rfl, HB.out⟩
set_option maxHeartbeats 2000000 in
theorem kind4_2 (w : World) : Calls Tryd.prog 52 #[.int .i64 (2 : Int)] w (IntPost w (rowOf (2 : Int)).kind) := by
  have HN := Lib.hid (show Calls Tryd.prog 49 #[.int .i64 (2 : Int)] w fun e w' => e = .returned (.string ⟨#[98, 111, 111, 108]⟩) ∧ Below w.heap.size w w' from name4_calls (2 : Int) w)
  go_enter Tryd.func52, Tryd.ntmps52
  go_wp2_with fail
  refine HN.out.mono ?_
  rintro e w1 ⟨rfl, hb⟩
  have HB := Lib.hid hb
  clear hb HN
  go_wp2_with fail
  all_goals go_ret
  all_goals exact ⟨rfl, HB.out⟩
set_option maxHeartbeats 2000000 in
theorem kind4_3 (w : World) : Calls Tryd.prog 52 #[.int .i64 (3 : Int)] w (IntPost w (rowOf (3 : Int)).kind) := by
  have HN := Lib.hid (show Calls Tryd.prog 49 #[.int .i64 (3 : Int)] w fun e w' => e = .returned (.string ⟨#[103, 101, 116]⟩) ∧ Below w.heap.size w w' from name4_calls (3 : Int) w)
  go_enter Tryd.func52, Tryd.ntmps52
  go_wp2_with fail
  refine HN.out.mono ?_
  rintro e w1 ⟨rfl, hb⟩
  have HB := Lib.hid hb
  clear hb HN
  go_wp2_with fail
  all_goals go_ret
  all_goals exact ⟨rfl, HB.out⟩
set_option maxHeartbeats 2000000 in
theorem kind4_4 (w : World) : Calls Tryd.prog 52 #[.int .i64 (4 : Int)] w (IntPost w (rowOf (4 : Int)).kind) := by
  have HN := Lib.hid (show Calls Tryd.prog 49 #[.int .i64 (4 : Int)] w fun e w' => e = .returned (.string ⟨#[115, 101, 116]⟩) ∧ Below w.heap.size w w' from name4_calls (4 : Int) w)
  go_enter Tryd.func52, Tryd.ntmps52
  go_wp2_with fail
  refine HN.out.mono ?_
  rintro e w1 ⟨rfl, hb⟩
  have HB := Lib.hid hb
  clear hb HN
  go_wp2_with fail
  all_goals go_ret
  all_goals exact ⟨rfl, HB.out⟩
set_option maxHeartbeats 2000000 in
theorem kind4_5 (w : World) : Calls Tryd.prog 52 #[.int .i64 (5 : Int)] w (IntPost w (rowOf (5 : Int)).kind) := by
  have HN := Lib.hid (show Calls Tryd.prog 49 #[.int .i64 (5 : Int)] w fun e w' => e = .returned (.string ⟨#[100, 114, 111, 112]⟩) ∧ Below w.heap.size w w' from name4_calls (5 : Int) w)
  go_enter Tryd.func52, Tryd.ntmps52
  go_wp2_with fail
  refine HN.out.mono ?_
  rintro e w1 ⟨rfl, hb⟩
  have HB := Lib.hid hb
  clear hb HN
  go_wp2_with fail
  all_goals go_ret
  all_goals exact ⟨rfl, HB.out⟩
set_option maxHeartbeats 2000000 in
theorem kind4_6 (w : World) : Calls Tryd.prog 52 #[.int .i64 (6 : Int)] w (IntPost w (rowOf (6 : Int)).kind) := by
  have HN := Lib.hid (show Calls Tryd.prog 49 #[.int .i64 (6 : Int)] w fun e w' => e = .returned (.string ⟨#[100, 117, 112]⟩) ∧ Below w.heap.size w w' from name4_calls (6 : Int) w)
  go_enter Tryd.func52, Tryd.ntmps52
  go_wp2_with fail
  refine HN.out.mono ?_
  rintro e w1 ⟨rfl, hb⟩
  have HB := Lib.hid hb
  clear hb HN
  go_wp2_with fail
  all_goals go_ret
  all_goals exact ⟨rfl, HB.out⟩
set_option maxHeartbeats 2000000 in
theorem kind4_7 (w : World) : Calls Tryd.prog 52 #[.int .i64 (7 : Int)] w (IntPost w (rowOf (7 : Int)).kind) := by
  have HN := Lib.hid (show Calls Tryd.prog 49 #[.int .i64 (7 : Int)] w fun e w' => e = .returned (.string ⟨#[115, 119, 97, 112]⟩) ∧ Below w.heap.size w w' from name4_calls (7 : Int) w)
  go_enter Tryd.func52, Tryd.ntmps52
  go_wp2_with fail
  refine HN.out.mono ?_
  rintro e w1 ⟨rfl, hb⟩
  have HB := Lib.hid hb
  clear hb HN
  go_wp2_with fail
  all_goals go_ret
  all_goals exact ⟨rfl, HB.out⟩
set_option maxHeartbeats 2000000 in
theorem kind4_8 (w : World) : Calls Tryd.prog 52 #[.int .i64 (8 : Int)] w (IntPost w (rowOf (8 : Int)).kind) := by
  have HN := Lib.hid (show Calls Tryd.prog 49 #[.int .i64 (8 : Int)] w fun e w' => e = .returned (.string ⟨#[97, 100, 100]⟩) ∧ Below w.heap.size w w' from name4_calls (8 : Int) w)
  go_enter Tryd.func52, Tryd.ntmps52
  go_wp2_with fail
  refine HN.out.mono ?_
  rintro e w1 ⟨rfl, hb⟩
  have HB := Lib.hid hb
  clear hb HN
  go_wp2_with fail
  all_goals go_ret
  all_goals exact ⟨rfl, HB.out⟩
set_option maxHeartbeats 2000000 in
theorem kind4_9 (w : World) : Calls Tryd.prog 52 #[.int .i64 (9 : Int)] w (IntPost w (rowOf (9 : Int)).kind) := by
  have HN := Lib.hid (show Calls Tryd.prog 49 #[.int .i64 (9 : Int)] w fun e w' => e = .returned (.string ⟨#[115, 117, 98]⟩) ∧ Below w.heap.size w w' from name4_calls (9 : Int) w)
  go_enter Tryd.func52, Tryd.ntmps52
  go_wp2_with fail
  refine HN.out.mono ?_
  rintro e w1 ⟨rfl, hb⟩
  have HB := Lib.hid hb
  clear hb HN
  go_wp2_with fail
  all_goals go_ret
  all_goals exact ⟨rfl, HB.out⟩
set_option maxHeartbeats 2000000 in
theorem kind4_10 (w : World) : Calls Tryd.prog 52 #[.int .i64 (10 : Int)] w (IntPost w (rowOf (10 : Int)).kind) := by
  have HN := Lib.hid (show Calls Tryd.prog 49 #[.int .i64 (10 : Int)] w fun e w' => e = .returned (.string ⟨#[109, 117, 108]⟩) ∧ Below w.heap.size w w' from name4_calls (10 : Int) w)
  go_enter Tryd.func52, Tryd.ntmps52
  go_wp2_with fail
  refine HN.out.mono ?_
  rintro e w1 ⟨rfl, hb⟩
  have HB := Lib.hid hb
  clear hb HN
  go_wp2_with fail
  all_goals go_ret
  all_goals exact ⟨rfl, HB.out⟩
set_option maxHeartbeats 2000000 in
theorem kind4_11 (w : World) : Calls Tryd.prog 52 #[.int .i64 (11 : Int)] w (IntPost w (rowOf (11 : Int)).kind) := by
  have HN := Lib.hid (show Calls Tryd.prog 49 #[.int .i64 (11 : Int)] w fun e w' => e = .returned (.string ⟨#[100, 105, 118]⟩) ∧ Below w.heap.size w w' from name4_calls (11 : Int) w)
  go_enter Tryd.func52, Tryd.ntmps52
  go_wp2_with fail
  refine HN.out.mono ?_
  rintro e w1 ⟨rfl, hb⟩
  have HB := Lib.hid hb
  clear hb HN
  go_wp2_with fail
  all_goals go_ret
  all_goals exact ⟨rfl, HB.out⟩
set_option maxHeartbeats 2000000 in
theorem kind4_12 (w : World) : Calls Tryd.prog 52 #[.int .i64 (12 : Int)] w (IntPost w (rowOf (12 : Int)).kind) := by
  have HN := Lib.hid (show Calls Tryd.prog 49 #[.int .i64 (12 : Int)] w fun e w' => e = .returned (.string ⟨#[114, 101, 109]⟩) ∧ Below w.heap.size w w' from name4_calls (12 : Int) w)
  go_enter Tryd.func52, Tryd.ntmps52
  go_wp2_with fail
  refine HN.out.mono ?_
  rintro e w1 ⟨rfl, hb⟩
  have HB := Lib.hid hb
  clear hb HN
  go_wp2_with fail
  all_goals go_ret
  all_goals exact ⟨rfl, HB.out⟩
set_option maxHeartbeats 2000000 in
theorem kind4_13 (w : World) : Calls Tryd.prog 52 #[.int .i64 (13 : Int)] w (IntPost w (rowOf (13 : Int)).kind) := by
  have HN := Lib.hid (show Calls Tryd.prog 49 #[.int .i64 (13 : Int)] w fun e w' => e = .returned (.string ⟨#[108, 101, 115, 115]⟩) ∧ Below w.heap.size w w' from name4_calls (13 : Int) w)
  go_enter Tryd.func52, Tryd.ntmps52
  go_wp2_with fail
  refine HN.out.mono ?_
  rintro e w1 ⟨rfl, hb⟩
  have HB := Lib.hid hb
  clear hb HN
  go_wp2_with fail
  all_goals go_ret
  all_goals exact ⟨rfl, HB.out⟩
set_option maxHeartbeats 2000000 in
theorem kind4_14 (w : World) : Calls Tryd.prog 52 #[.int .i64 (14 : Int)] w (IntPost w (rowOf (14 : Int)).kind) := by
  have HN := Lib.hid (show Calls Tryd.prog 49 #[.int .i64 (14 : Int)] w fun e w' => e = .returned (.string ⟨#[115, 97, 109, 101]⟩) ∧ Below w.heap.size w w' from name4_calls (14 : Int) w)
  go_enter Tryd.func52, Tryd.ntmps52
  go_wp2_with fail
  refine HN.out.mono ?_
  rintro e w1 ⟨rfl, hb⟩
  have HB := Lib.hid hb
  clear hb HN
  go_wp2_with fail
  all_goals go_ret
  all_goals exact ⟨rfl, HB.out⟩
set_option maxHeartbeats 2000000 in
theorem kind4_15 (w : World) : Calls Tryd.prog 52 #[.int .i64 (15 : Int)] w (IntPost w (rowOf (15 : Int)).kind) := by
  have HN := Lib.hid (show Calls Tryd.prog 49 #[.int .i64 (15 : Int)] w fun e w' => e = .returned (.string ⟨#[110, 111, 116]⟩) ∧ Below w.heap.size w w' from name4_calls (15 : Int) w)
  go_enter Tryd.func52, Tryd.ntmps52
  go_wp2_with fail
  refine HN.out.mono ?_
  rintro e w1 ⟨rfl, hb⟩
  have HB := Lib.hid hb
  clear hb HN
  go_wp2_with fail
  all_goals go_ret
  all_goals exact ⟨rfl, HB.out⟩
set_option maxHeartbeats 2000000 in
theorem kind4_16 (w : World) : Calls Tryd.prog 52 #[.int .i64 (16 : Int)] w (IntPost w (rowOf (16 : Int)).kind) := by
  have HN := Lib.hid (show Calls Tryd.prog 49 #[.int .i64 (16 : Int)] w fun e w' => e = .returned (.string ⟨#[97, 110, 100]⟩) ∧ Below w.heap.size w w' from name4_calls (16 : Int) w)
  go_enter Tryd.func52, Tryd.ntmps52
  go_wp2_with fail
  refine HN.out.mono ?_
  rintro e w1 ⟨rfl, hb⟩
  have HB := Lib.hid hb
  clear hb HN
  go_wp2_with fail
  all_goals go_ret
  all_goals exact ⟨rfl, HB.out⟩
set_option maxHeartbeats 2000000 in
theorem kind4_17 (w : World) : Calls Tryd.prog 52 #[.int .i64 (17 : Int)] w (IntPost w (rowOf (17 : Int)).kind) := by
  have HN := Lib.hid (show Calls Tryd.prog 49 #[.int .i64 (17 : Int)] w fun e w' => e = .returned (.string ⟨#[111, 114]⟩) ∧ Below w.heap.size w w' from name4_calls (17 : Int) w)
  go_enter Tryd.func52, Tryd.ntmps52
  go_wp2_with fail
  refine HN.out.mono ?_
  rintro e w1 ⟨rfl, hb⟩
  have HB := Lib.hid hb
  clear hb HN
  go_wp2_with fail
  all_goals go_ret
  all_goals exact ⟨rfl, HB.out⟩
set_option maxHeartbeats 2000000 in
theorem kind4_18 (w : World) : Calls Tryd.prog 52 #[.int .i64 (18 : Int)] w (IntPost w (rowOf (18 : Int)).kind) := by
  have HN := Lib.hid (show Calls Tryd.prog 49 #[.int .i64 (18 : Int)] w fun e w' => e = .returned (.string ⟨#[106, 117, 109, 112]⟩) ∧ Below w.heap.size w w' from name4_calls (18 : Int) w)
  go_enter Tryd.func52, Tryd.ntmps52
  go_wp2_with fail
  refine HN.out.mono ?_
  rintro e w1 ⟨rfl, hb⟩
  have HB := Lib.hid hb
  clear hb HN
  go_wp2_with fail
  all_goals go_ret
  all_goals exact ⟨rfl, HB.out⟩
set_option maxHeartbeats 2000000 in
theorem kind4_19 (w : World) : Calls Tryd.prog 52 #[.int .i64 (19 : Int)] w (IntPost w (rowOf (19 : Int)).kind) := by
  have HN := Lib.hid (show Calls Tryd.prog 49 #[.int .i64 (19 : Int)] w fun e w' => e = .returned (.string ⟨#[117, 110, 108, 101, 115, 115]⟩) ∧ Below w.heap.size w w' from name4_calls (19 : Int) w)
  go_enter Tryd.func52, Tryd.ntmps52
  go_wp2_with fail
  refine HN.out.mono ?_
  rintro e w1 ⟨rfl, hb⟩
  have HB := Lib.hid hb
  clear hb HN
  go_wp2_with fail
  all_goals go_ret
  all_goals exact ⟨rfl, HB.out⟩
set_option maxHeartbeats 2000000 in
theorem kind4_20 (w : World) : Calls Tryd.prog 52 #[.int .i64 (20 : Int)] w (IntPost w (rowOf (20 : Int)).kind) := by
  have HN := Lib.hid (show Calls Tryd.prog 49 #[.int .i64 (20 : Int)] w fun e w' => e = .returned (.string ⟨#[99, 97, 108, 108]⟩) ∧ Below w.heap.size w w' from name4_calls (20 : Int) w)
  go_enter Tryd.func52, Tryd.ntmps52
  go_wp2_with fail
  refine HN.out.mono ?_
  rintro e w1 ⟨rfl, hb⟩
  have HB := Lib.hid hb
  clear hb HN
  go_wp2_with fail
  all_goals go_ret
  all_goals exact ⟨rfl, HB.out⟩
set_option maxHeartbeats 2000000 in
theorem kind4_21 (w : World) : Calls Tryd.prog 52 #[.int .i64 (21 : Int)] w (IntPost w (rowOf (21 : Int)).kind) := by
  have HN := Lib.hid (show Calls Tryd.prog 49 #[.int .i64 (21 : Int)] w fun e w' => e = .returned (.string ⟨#[114, 101, 116]⟩) ∧ Below w.heap.size w w' from name4_calls (21 : Int) w)
  go_enter Tryd.func52, Tryd.ntmps52
  go_wp2_with fail
  refine HN.out.mono ?_
  rintro e w1 ⟨rfl, hb⟩
  have HB := Lib.hid hb
  clear hb HN
  go_wp2_with fail
  all_goals go_ret
  all_goals exact ⟨rfl, HB.out⟩
set_option maxHeartbeats 2000000 in
theorem kind4_22 (w : World) : Calls Tryd.prog 52 #[.int .i64 (22 : Int)] w (IntPost w (rowOf (22 : Int)).kind) := by
  have HN := Lib.hid (show Calls Tryd.prog 49 #[.int .i64 (22 : Int)] w fun e w' => e = .returned (.string ⟨#[114, 101, 99, 111, 114, 100]⟩) ∧ Below w.heap.size w w' from name4_calls (22 : Int) w)
  go_enter Tryd.func52, Tryd.ntmps52
  go_wp2_with fail
  refine HN.out.mono ?_
  rintro e w1 ⟨rfl, hb⟩
  have HB := Lib.hid hb
  clear hb HN
  go_wp2_with fail
  all_goals go_ret
  all_goals exact ⟨rfl, HB.out⟩
set_option maxHeartbeats 2000000 in
theorem kind4_23 (w : World) : Calls Tryd.prog 52 #[.int .i64 (23 : Int)] w (IntPost w (rowOf (23 : Int)).kind) := by
  have HN := Lib.hid (show Calls Tryd.prog 49 #[.int .i64 (23 : Int)] w fun e w' => e = .returned (.string ⟨#[102, 105, 101, 108, 100]⟩) ∧ Below w.heap.size w w' from name4_calls (23 : Int) w)
  go_enter Tryd.func52, Tryd.ntmps52
  go_wp2_with fail
  refine HN.out.mono ?_
  rintro e w1 ⟨rfl, hb⟩
  have HB := Lib.hid hb
  clear hb HN
  go_wp2_with fail
  all_goals go_ret
  all_goals exact ⟨rfl, HB.out⟩
set_option maxHeartbeats 2000000 in
theorem kind4_24 (w : World) : Calls Tryd.prog 52 #[.int .i64 (24 : Int)] w (IntPost w (rowOf (24 : Int)).kind) := by
  have HN := Lib.hid (show Calls Tryd.prog 49 #[.int .i64 (24 : Int)] w fun e w' => e = .returned (.string ⟨#[115, 116, 111, 114, 101]⟩) ∧ Below w.heap.size w w' from name4_calls (24 : Int) w)
  go_enter Tryd.func52, Tryd.ntmps52
  go_wp2_with fail
  refine HN.out.mono ?_
  rintro e w1 ⟨rfl, hb⟩
  have HB := Lib.hid hb
  clear hb HN
  go_wp2_with fail
  all_goals go_ret
  all_goals exact ⟨rfl, HB.out⟩
set_option maxHeartbeats 2000000 in
theorem kind4_25 (w : World) : Calls Tryd.prog 52 #[.int .i64 (25 : Int)] w (IntPost w (rowOf (25 : Int)).kind) := by
  have HN := Lib.hid (show Calls Tryd.prog 49 #[.int .i64 (25 : Int)] w fun e w' => e = .returned (.string ⟨#[97, 114, 114, 97, 121]⟩) ∧ Below w.heap.size w w' from name4_calls (25 : Int) w)
  go_enter Tryd.func52, Tryd.ntmps52
  go_wp2_with fail
  refine HN.out.mono ?_
  rintro e w1 ⟨rfl, hb⟩
  have HB := Lib.hid hb
  clear hb HN
  go_wp2_with fail
  all_goals go_ret
  all_goals exact ⟨rfl, HB.out⟩
set_option maxHeartbeats 2000000 in
theorem kind4_26 (w : World) : Calls Tryd.prog 52 #[.int .i64 (26 : Int)] w (IntPost w (rowOf (26 : Int)).kind) := by
  have HN := Lib.hid (show Calls Tryd.prog 49 #[.int .i64 (26 : Int)] w fun e w' => e = .returned (.string ⟨#[108, 111, 97, 100]⟩) ∧ Below w.heap.size w w' from name4_calls (26 : Int) w)
  go_enter Tryd.func52, Tryd.ntmps52
  go_wp2_with fail
  refine HN.out.mono ?_
  rintro e w1 ⟨rfl, hb⟩
  have HB := Lib.hid hb
  clear hb HN
  go_wp2_with fail
  all_goals go_ret
  all_goals exact ⟨rfl, HB.out⟩
set_option maxHeartbeats 2000000 in
theorem kind4_27 (w : World) : Calls Tryd.prog 52 #[.int .i64 (27 : Int)] w (IntPost w (rowOf (27 : Int)).kind) := by
  have HN := Lib.hid (show Calls Tryd.prog 49 #[.int .i64 (27 : Int)] w fun e w' => e = .returned (.string ⟨#[112, 117, 116]⟩) ∧ Below w.heap.size w w' from name4_calls (27 : Int) w)
  go_enter Tryd.func52, Tryd.ntmps52
  go_wp2_with fail
  refine HN.out.mono ?_
  rintro e w1 ⟨rfl, hb⟩
  have HB := Lib.hid hb
  clear hb HN
  go_wp2_with fail
  all_goals go_ret
  all_goals exact ⟨rfl, HB.out⟩
set_option maxHeartbeats 2000000 in
theorem kind4_28 (w : World) : Calls Tryd.prog 52 #[.int .i64 (28 : Int)] w (IntPost w (rowOf (28 : Int)).kind) := by
  have HN := Lib.hid (show Calls Tryd.prog 49 #[.int .i64 (28 : Int)] w fun e w' => e = .returned (.string ⟨#[115, 105, 122, 101]⟩) ∧ Below w.heap.size w w' from name4_calls (28 : Int) w)
  go_enter Tryd.func52, Tryd.ntmps52
  go_wp2_with fail
  refine HN.out.mono ?_
  rintro e w1 ⟨rfl, hb⟩
  have HB := Lib.hid hb
  clear hb HN
  go_wp2_with fail
  all_goals go_ret
  all_goals exact ⟨rfl, HB.out⟩
set_option maxHeartbeats 2000000 in
theorem kind4_29 (w : World) : Calls Tryd.prog 52 #[.int .i64 (29 : Int)] w (IntPost w (rowOf (29 : Int)).kind) := by
  have HN := Lib.hid (show Calls Tryd.prog 49 #[.int .i64 (29 : Int)] w fun e w' => e = .returned (.string ⟨#[99, 108, 111, 115, 117, 114, 101]⟩) ∧ Below w.heap.size w w' from name4_calls (29 : Int) w)
  go_enter Tryd.func52, Tryd.ntmps52
  go_wp2_with fail
  refine HN.out.mono ?_
  rintro e w1 ⟨rfl, hb⟩
  have HB := Lib.hid hb
  clear hb HN
  go_wp2_with fail
  all_goals go_ret
  all_goals exact ⟨rfl, HB.out⟩
set_option maxHeartbeats 2000000 in
theorem kind4_30 (w : World) : Calls Tryd.prog 52 #[.int .i64 (30 : Int)] w (IntPost w (rowOf (30 : Int)).kind) := by
  have HN := Lib.hid (show Calls Tryd.prog 49 #[.int .i64 (30 : Int)] w fun e w' => e = .returned (.string ⟨#[97, 112, 112, 108, 121]⟩) ∧ Below w.heap.size w w' from name4_calls (30 : Int) w)
  go_enter Tryd.func52, Tryd.ntmps52
  go_wp2_with fail
  refine HN.out.mono ?_
  rintro e w1 ⟨rfl, hb⟩
  have HB := Lib.hid hb
  clear hb HN
  go_wp2_with fail
  all_goals go_ret
  all_goals exact ⟨rfl, HB.out⟩
set_option maxHeartbeats 2000000 in
theorem kind4_31 (w : World) : Calls Tryd.prog 52 #[.int .i64 (31 : Int)] w (IntPost w (rowOf (31 : Int)).kind) := by
  have HN := Lib.hid (show Calls Tryd.prog 49 #[.int .i64 (31 : Int)] w fun e w' => e = .returned (.string ⟨#[110, 111, 110, 101]⟩) ∧ Below w.heap.size w w' from name4_calls (31 : Int) w)
  go_enter Tryd.func52, Tryd.ntmps52
  go_wp2_with fail
  refine HN.out.mono ?_
  rintro e w1 ⟨rfl, hb⟩
  have HB := Lib.hid hb
  clear hb HN
  go_wp2_with fail
  all_goals go_ret
  all_goals exact ⟨rfl, HB.out⟩
set_option maxHeartbeats 2000000 in
theorem kind4_32 (w : World) : Calls Tryd.prog 52 #[.int .i64 (32 : Int)] w (IntPost w (rowOf (32 : Int)).kind) := by
  have HN := Lib.hid (show Calls Tryd.prog 49 #[.int .i64 (32 : Int)] w fun e w' => e = .returned (.string ⟨#[115, 111, 109, 101]⟩) ∧ Below w.heap.size w w' from name4_calls (32 : Int) w)
  go_enter Tryd.func52, Tryd.ntmps52
  go_wp2_with fail
  refine HN.out.mono ?_
  rintro e w1 ⟨rfl, hb⟩
  have HB := Lib.hid hb
  clear hb HN
  go_wp2_with fail
  all_goals go_ret
  all_goals exact ⟨rfl, HB.out⟩
set_option maxHeartbeats 2000000 in
theorem kind4_33 (w : World) : Calls Tryd.prog 52 #[.int .i64 (33 : Int)] w (IntPost w (rowOf (33 : Int)).kind) := by
  have HN := Lib.hid (show Calls Tryd.prog 49 #[.int .i64 (33 : Int)] w fun e w' => e = .returned (.string ⟨#[105, 115, 110, 111, 110, 101]⟩) ∧ Below w.heap.size w w' from name4_calls (33 : Int) w)
  go_enter Tryd.func52, Tryd.ntmps52
  go_wp2_with fail
  refine HN.out.mono ?_
  rintro e w1 ⟨rfl, hb⟩
  have HB := Lib.hid hb
  clear hb HN
  go_wp2_with fail
  all_goals go_ret
  all_goals exact ⟨rfl, HB.out⟩
set_option maxHeartbeats 2000000 in
theorem kind4_34 (w : World) : Calls Tryd.prog 52 #[.int .i64 (34 : Int)] w (IntPost w (rowOf (34 : Int)).kind) := by
  have HN := Lib.hid (show Calls Tryd.prog 49 #[.int .i64 (34 : Int)] w fun e w' => e = .returned (.string ⟨#[102, 111, 114, 99, 101]⟩) ∧ Below w.heap.size w w' from name4_calls (34 : Int) w)
  go_enter Tryd.func52, Tryd.ntmps52
  go_wp2_with fail
  refine HN.out.mono ?_
  rintro e w1 ⟨rfl, hb⟩
  have HB := Lib.hid hb
  clear hb HN
  go_wp2_with fail
  all_goals go_ret
  all_goals exact ⟨rfl, HB.out⟩
set_option maxHeartbeats 2000000 in
theorem kind4_35 (w : World) : Calls Tryd.prog 52 #[.int .i64 (35 : Int)] w (IntPost w (rowOf (35 : Int)).kind) := by
  have HN := Lib.hid (show Calls Tryd.prog 49 #[.int .i64 (35 : Int)] w fun e w' => e = .returned (.string ⟨#[112, 114, 105, 110, 116]⟩) ∧ Below w.heap.size w w' from name4_calls (35 : Int) w)
  go_enter Tryd.func52, Tryd.ntmps52
  go_wp2_with fail
  refine HN.out.mono ?_
  rintro e w1 ⟨rfl, hb⟩
  have HB := Lib.hid hb
  clear hb HN
  go_wp2_with fail
  all_goals go_ret
  all_goals exact ⟨rfl, HB.out⟩
set_option maxHeartbeats 2000000 in
theorem kind4_36 (w : World) : Calls Tryd.prog 52 #[.int .i64 (36 : Int)] w (IntPost w (rowOf (36 : Int)).kind) := by
  have HN := Lib.hid (show Calls Tryd.prog 49 #[.int .i64 (36 : Int)] w fun e w' => e = .returned (.string ⟨#[114, 101, 97, 100]⟩) ∧ Below w.heap.size w w' from name4_calls (36 : Int) w)
  go_enter Tryd.func52, Tryd.ntmps52
  go_wp2_with fail
  refine HN.out.mono ?_
  rintro e w1 ⟨rfl, hb⟩
  have HB := Lib.hid hb
  clear hb HN
  go_wp2_with fail
  all_goals go_ret
  all_goals exact ⟨rfl, HB.out⟩
set_option maxHeartbeats 2000000 in
theorem kind4_37 (w : World) : Calls Tryd.prog 52 #[.int .i64 (37 : Int)] w (IntPost w (rowOf (37 : Int)).kind) := by
  have HN := Lib.hid (show Calls Tryd.prog 49 #[.int .i64 (37 : Int)] w fun e w' => e = .returned (.string ⟨#[102, 97, 105, 108]⟩) ∧ Below w.heap.size w w' from name4_calls (37 : Int) w)
  go_enter Tryd.func52, Tryd.ntmps52
  go_wp2_with fail
  refine HN.out.mono ?_
  rintro e w1 ⟨rfl, hb⟩
  have HB := Lib.hid hb
  clear hb HN
  go_wp2_with fail
  all_goals go_ret
  all_goals exact ⟨rfl, HB.out⟩
set_option maxHeartbeats 2000000 in
theorem kind4_no (op : Int) (hin : ¬ (0 ≤ op ∧ op < 38)) (w : World) : Calls Tryd.prog 52 #[.int .i64 op] w (IntPost w (rowOf op).kind) := by
  have HN := Lib.hid (show Calls Tryd.prog 49 #[.int .i64 op] w fun e w' => e = .returned (.string ⟨#[]⟩) ∧ Below w.heap.size w w' from by have k := name4_calls op w; unfold NamePost nameOf at k; rw [show rowOf op = ⟨⟨#[]⟩, -1, -1, 0, 0, false⟩ by unfold rowOf; rw [if_neg hin]] at k; exact k)
  go_enter Tryd.func52, Tryd.ntmps52
  go_wp2_with fail
  refine HN.out.mono ?_
  rintro e w1 ⟨rfl, hb⟩
  have HB := Lib.hid hb
  clear hb HN
  go_wp2_with fail
  all_goals go_ret
  all_goals exact ⟨by rw [show rowOf op = ⟨⟨#[]⟩, -1, -1, 0, 0, false⟩ by unfold rowOf; rw [if_neg hin]]; rfl, HB.out⟩
theorem kind4_calls (op : Int) (w : World) : Calls Tryd.prog 52 #[.int .i64 op] w (IntPost w (rowOf op).kind) := by
  by_cases hin : 0 ≤ op ∧ op < 38
  · rcases op_cases hin.1 hin.2 with rfl | rfl | rfl | rfl | rfl | rfl | rfl | rfl | rfl | rfl | rfl | rfl | rfl | rfl | rfl | rfl | rfl | rfl | rfl | rfl | rfl | rfl | rfl | rfl | rfl | rfl | rfl | rfl | rfl | rfl | rfl | rfl | rfl | rfl | rfl | rfl | rfl | rfl
    · exact kind4_0 w
    · exact kind4_1 w
    · exact kind4_2 w
    · exact kind4_3 w
    · exact kind4_4 w
    · exact kind4_5 w
    · exact kind4_6 w
    · exact kind4_7 w
    · exact kind4_8 w
    · exact kind4_9 w
    · exact kind4_10 w
    · exact kind4_11 w
    · exact kind4_12 w
    · exact kind4_13 w
    · exact kind4_14 w
    · exact kind4_15 w
    · exact kind4_16 w
    · exact kind4_17 w
    · exact kind4_18 w
    · exact kind4_19 w
    · exact kind4_20 w
    · exact kind4_21 w
    · exact kind4_22 w
    · exact kind4_23 w
    · exact kind4_24 w
    · exact kind4_25 w
    · exact kind4_26 w
    · exact kind4_27 w
    · exact kind4_28 w
    · exact kind4_29 w
    · exact kind4_30 w
    · exact kind4_31 w
    · exact kind4_32 w
    · exact kind4_33 w
    · exact kind4_34 w
    · exact kind4_35 w
    · exact kind4_36 w
    · exact kind4_37 w
  · exact kind4_no op hin w
end Go.Proofs.YtdilmfnijkjiaaaDoor.K
