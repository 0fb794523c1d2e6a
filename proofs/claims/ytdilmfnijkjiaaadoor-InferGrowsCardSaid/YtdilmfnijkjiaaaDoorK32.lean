import Derived.Test.YtdilmfnijkjiaaaDoorK27
import Derived.Test.YtdilmfnijkjiaaaDoorK31
import Derived.Deep.RegionHeld3
import Derived.Deep.RegionWith
set_option maxRecDepth 100000
set_option linter.unusedSimpArgs false
set_option linter.unusedVariables false
namespace Go.Proofs.YtdilmfnijkjiaaaDoor.K
open Go.RowKit
theorem lit_ints (w : World) (ns : List Int) (cs : Array Value) (hcs : cs = (nums ns).toArray) (n : Nat) (hn : ns.length = n) (hl : n ≤ 1000) : IntSl (w.alloc (.cells cs 3)) (some ⟨w.heap.size, 0, none⟩) n ns := by
  subst hn hcs
  refine ⟨Nat.le_refl _, by omega, (fun e => by cases e), fun ad e j x hj => ?_⟩
  obtain rfl := Option.some.inj e
  rw [add_zero_off, cell_of_row _ _ _ _ _ _ (heap_alloc_new w _)]
  simp [nums, hj]
def recTy : List Ty := [⟨2, [0, 1], 0⟩]
theorem rec_ok : tysOk recTy := ⟨by decide, by intro t ht; simp [recTy] at ht; subst ht; decide⟩
theorem IntSl.nil (w : World) : IntSl w none 0 [] := ⟨by simp, by omega, fun _ => rfl, (fun ad e => by cases e)⟩
theorem TySl.nil (w : World) : TySl w none 0 [] := ⟨by simp, by omega, fun _ => rfl, (fun ad e => by cases e)⟩
theorem FnSl.nil (w : World) : FnSl w none 0 [] := ⟨by simp, by omega, fun _ => rfl, (fun ad e => by cases e)⟩
theorem rec_sl (w : World) : TySl ((w.alloc (.cells #[.int .i64 0, .int .i64 1] 3)).alloc (.cells #[.int .i64 2, .slice (some ⟨w.heap.size, 0, none⟩) 2 2, .int .i64 0] 87)) (some ⟨w.heap.size + 1, 0, none⟩) 1 recTy := by
  have hs : (w.alloc (.cells #[.int .i64 0, .int .i64 1] 3)).heap.size = w.heap.size + 1 := by simp
  have k := heap_alloc_new (w.alloc (.cells #[.int .i64 0, .int .i64 1] 3)) (.cells #[.int .i64 2, .slice (some ⟨w.heap.size, 0, none⟩) 2 2, .int .i64 0] 87)
  rw [hs] at k
  refine ⟨by simp [recTy], by omega, (fun e => by cases e), fun ad e j t hj => ?_⟩
  obtain rfl := Option.some.inj e
  match j, hj with
  | 0, hj =>
    obtain rfl := Option.some.inj hj
    refine ⟨some ⟨w.heap.size, 0, none⟩, 2, ?_, ?_, ?_, ?_⟩
    · rw [add_zero_off]; exact cell_of_row _ _ 0 _ _ _ k
    · rw [add_zero_off]; exact cell_of_row _ _ 1 _ _ _ k
    · rw [add_zero_off]; exact cell_of_row _ _ 2 _ _ _ k
    · exact (lit_ints w [0, 1] _ rfl 2 rfl (by omega)).below (below_alloc' (below_refl _))
  | j + 1, hj => simp [recTy] at hj
set_option maxHeartbeats 1000000 in
theorem shown_calls (w : World) : Calls Tryd.prog 19 #[] w fun e w' => e = .returned (.bool true) ∧ Below w.heap.size w w' := by
  have HN := Lib.hid (new_calls (some ⟨w.heap.size + 1, 0, none⟩) 1 recTy _ (rec_sl w) (by simp [recTy]) (by simp [recTy]))
  have HBa := Lib.hid (below_alloc' (o := .cells #[.int .i64 2, .slice (some ⟨w.heap.size, 0, none⟩) 2 2, .int .i64 0] 87) (below_alloc' (o := .cells #[.int .i64 0, .int .i64 1] 3) (below_refl w)))
  go_enter Tryd.func19, Tryd.ntmps19
  go_wp2_with fail
  have HN' := HN.out
  refine HN'.mono ?_
  rintro e w1 ⟨hb, hor⟩
  obtain ⟨g, rfl, hg, hT⟩ : ∃ g, e = .returned (.tuple #[.pointer (some ⟨g, 0, none⟩), .int .i64 0]) ∧ _ ≤ g ∧ Tab w1 g (allOf recTy) := by
    rcases hor with ⟨_, h⟩ | ⟨h, _⟩
    · exact h
    · exact absurd rec_ok h
  have HT := Lib.hid hT
  have HB1 := Lib.hid (below_then HBa.out hb)
  have HG := Lib.hid hg
  clear hb hor hT hg
  clear HN' HN HBa
  go_wp2_with fail
  have b1 := heap2 w1 (.cells #[.pointer (some ⟨g, 0, none⟩), .slice none 0 0, .int .i64 0, .int .i64 0] 34) (.cells #[.int .i64 1, .int .i64 0, .int .i64 1] 3)
  have hL1 := lit_ints (w1.alloc (.cells #[.pointer (some ⟨g, 0, none⟩), .slice none 0 0, .int .i64 0, .int .i64 0] 34)) [1, 0, 1] _ rfl 3 rfl (by omega)
  rw [show (w1.alloc (.cells #[.pointer (some ⟨g, 0, none⟩), .slice none 0 0, .int .i64 0, .int .i64 0] 34)).heap.size = w1.heap.size + 1 by simp] at hL1
  have hBb : Below w1.heap.size w1 ((w1.alloc (.cells #[.pointer (some ⟨g, 0, none⟩), .slice none 0 0, .int .i64 0, .int .i64 0] 34)).alloc (.cells #[.int .i64 1, .int .i64 0, .int .i64 1] 3)) := below_alloc' (below_alloc' (below_refl w1))
  have hS1 := step_calls 22 2 0 g none 0 0 0 (allOf recTy) [] 0 none 0 [] (some ⟨w1.heap.size + 1, 0, none⟩) 3 [1, 0, 1] _ (HT.out.below hBb) (FnSl.nil _) (by decide) (by decide) (by decide) (IntSl.nil _) hL1
  rw [show stepM (allOf recTy) [] 0 0 22 2 0 0 [] [1, 0, 1] = ([], [1, 2], 0) by rfl] at hS1
  refine hS1.mono ?_
  rintro e w2 ⟨V1, V2, rfl, ho, hb2⟩
  obtain ⟨A1, k1, rfl, hs1⟩ := ho.l.sl
  obtain ⟨A2, k2, rfl, hs2⟩ := ho.s.sl
  have c0 : w2.cell? ⟨w1.heap.size, 0, none⟩ = some (.pointer (some ⟨g, 0, none⟩)) := cell_below hb2 (cell_of_row _ _ 0 _ _ _ b1.1)
  have c1 : w2.cell? ⟨w1.heap.size, 1, none⟩ = some (.slice none 0 0) := cell_below hb2 (cell_of_row _ _ 1 _ _ _ b1.1)
  have c2 : w2.cell? ⟨w1.heap.size, 2, none⟩ = some (.int .i64 0) := cell_below hb2 (cell_of_row _ _ 2 _ _ _ b1.1)
  have c3 : w2.cell? ⟨w1.heap.size, 3, none⟩ = some (.int .i64 0) := cell_below hb2 (cell_of_row _ _ 3 _ _ _ b1.1)
  have d0 := cell_below (below_alloc' (o := .cells #[.slice A1 0 k1, .slice A2 2 k2] 30) (below_refl w2)) c0
  have d1 := cell_below (below_alloc' (o := .cells #[.slice A1 0 k1, .slice A2 2 k2] 30) (below_refl w2)) c1
  have d2 := cell_below (below_alloc' (o := .cells #[.slice A1 0 k1, .slice A2 2 k2] 30) (below_refl w2)) c2
  have d3 := cell_below (below_alloc' (o := .cells #[.slice A1 0 k1, .slice A2 2 k2] 30) (below_refl w2)) c3
  have HB2 := Lib.hid (below_then HB1.out (below_then hBb hb2))
  have HT2 := Lib.hid ((HT.out.below hBb).below hb2)
  have HS1 := Lib.hid hs1
  have HS2 := Lib.hid hs2
  clear hS1 hL1 hBb b1 ho hb2 hs1 hs2 HT HB1 HG
  unfold frV
  go_wp2_with fail
  have b2 := heap2 w2 (.cells #[.slice A1 0 k1, .slice A2 2 k2] 30) (.cells #[.int .i64 1, .int .i64 0, .int .i64 0] 3)
  have hL2 := lit_ints (w2.alloc (.cells #[.slice A1 0 k1, .slice A2 2 k2] 30)) [1, 0, 0] _ rfl 3 rfl (by omega)
  rw [show (w2.alloc (.cells #[.slice A1 0 k1, .slice A2 2 k2] 30)).heap.size = w2.heap.size + 1 by simp] at hL2
  have hBc : Below w2.heap.size w2 ((w2.alloc (.cells #[.slice A1 0 k1, .slice A2 2 k2] 30)).alloc (.cells #[.int .i64 1, .int .i64 0, .int .i64 0] 3)) := below_alloc' (below_alloc' (below_refl w2))
  have hS2 := step_calls 22 2 0 g none 0 0 0 (allOf recTy) [] 0 none 0 [] (some ⟨w2.heap.size + 1, 0, none⟩) 3 [1, 0, 0] _ (HT2.out.below hBc) (FnSl.nil _) (by decide) (by decide) (by decide) (IntSl.nil _) hL2
  rw [show stepM (allOf recTy) [] 0 0 22 2 0 0 [] [1, 0, 0] = ([], [1, 2], 16) by rfl] at hS2
  refine hS2.mono ?_
  rintro e w3 ⟨V3, V4, rfl, ho, hb3⟩
  obtain ⟨A3, k3, rfl, hs3⟩ := ho.l.sl
  obtain ⟨A4, k4, rfl, hs4⟩ := ho.s.sl
  have f0 : w3.cell? ⟨w2.heap.size, 0, none⟩ = some (.slice A1 0 k1) := cell_below hb3 (cell_of_row _ _ 0 _ _ _ b2.1)
  have f1 : w3.cell? ⟨w2.heap.size, 1, none⟩ = some (.slice A2 2 k2) := cell_below hb3 (cell_of_row _ _ 1 _ _ _ b2.1)
  have g0 := cell_below (below_alloc' (o := .cells #[.slice A3 0 k3, .slice A4 2 k4] 30) (below_refl w3)) f0
  have g1 := cell_below (below_alloc' (o := .cells #[.slice A3 0 k3, .slice A4 2 k4] 30) (below_refl w3)) f1
  have HX := Lib.hid (text_calls A1 k1 [] A2 k2 [1, 2] (w3.alloc (.cells #[.slice A3 0 k3, .slice A4 2 k4] 30)) (((HS1.out.below hBc).below hb3).below (below_alloc' (below_refl _))) (((HS2.out.below hBc).below hb3).below (below_alloc' (below_refl _))) (by decide) (by decide) (by decide) (by decide))
  rw [show textOf [] [1, 2] = ⟨#[124, 32, 49, 32, 50]⟩ by decide +kernel] at HX
  have HB3 := Lib.hid (below_then HB2.out (below_then hBc (below_alloc' (o := .cells #[.slice A3 0 k3, .slice A4 2 k4] 30) hb3)))
  clear hS2 hL2 hBc b2 ho hb3 hs3 hs4 HT2 HB2 HS1 HS2 c0 c1 c2 c3 d0 d1 d2 d3
  unfold frV
  go_wp2_with fail
  refine HX.out.mono ?_
  rintro e w4 ⟨rfl, hb4⟩
  have HB4 := Lib.hid (below_then HB3.out hb4)
  clear HB3 HX hb4 f0 f1 g0 g1
  go_wp2
  go_ret
  exact ⟨rfl, HB4.out⟩
end Go.Proofs.YtdilmfnijkjiaaaDoor.K
