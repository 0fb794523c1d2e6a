import Derived.Test.YtdilmfnijkjiaaaDoorK70a
set_option maxRecDepth 100000
set_option linter.unusedSimpArgs false
set_option linter.unusedVariables false
namespace Go.Proofs.YtdilmfnijkjiaaaDoor.K
open Go.RowKit
set_option maxHeartbeats 16000000 in
theorem scopes4_calls (A : Option Addr) (c : Nat) (ts : List Ty) (FA : Option Addr) (fc nf : Nat) (lo code : Int) (w : World) (hT : TySl w A c ts) (hm : ts.length * 40 ≤ 140737488351232) (hp : ∀ t ∈ ts, t.parts.length * 8 ≤ 140737488351232) (ho : ∀ t ∈ ts, t.of ≤ 9223372036854775807) :
    Calls Tryd.prog 57 #[.agg #[.slice A ts.length c, .slice FA nf fc, .int .i64 lo, .int .i64 code]] w (Sc4Post w A c ts FA fc nf lo code) := by
  have b3 := heap3' w (.cells #[.slice A ts.length c, .slice FA nf fc, .int .i64 lo, .int .i64 code] 76) (.cells #[.pointer none, .slice none 0 0, .int .i64 0, .int .i64 0] 34) (.cells #[.slice none 0 0, .slice none 0 0, .int .i64 0, .int .i64 0] 36)
  have hB0 := below_alloc' (o := .cells #[.slice none 0 0, .slice none 0 0, .int .i64 0, .int .i64 0] 36) (below_alloc' (o := .cells #[.pointer none, .slice none 0 0, .int .i64 0, .int .i64 0] 34) (below_alloc' (o := .cells #[.slice A ts.length c, .slice FA nf fc, .int .i64 lo, .int .i64 code] 76) (below_refl w)))
  have HP := Lib.hid hp
  have HM := Lib.hid hm
  have HO := Lib.hid ho
  have HT := Lib.hid (hT.below hB0)
  have HB0 := Lib.hid hB0
  clear hT hp ho hm hB0
  go_enter Tryd.func57, Tryd.ntmps57
  have R1 := Lib.hid b3.1
  have R2 := Lib.hid b3.2.1
  have R3 := Lib.hid b3.2.2
  obtain ⟨c0, c1, c2, c3⟩ := cells4' b3.1
  clear b3
  go_wp2_with fail
  have hsz : (((w.alloc (.cells #[.slice A ts.length c, .slice FA nf fc, .int .i64 lo, .int .i64 code] 76)).alloc (.cells #[.pointer none, .slice none 0 0, .int .i64 0, .int .i64 0] 34)).alloc (.cells #[.slice none 0 0, .slice none 0 0, .int .i64 0, .int .i64 0] 36)).heap.size = w.heap.size + 3 := by simp
  have HSZ : Hid (w.heap.size + 3 = (((w.alloc (.cells #[.slice A ts.length c, .slice FA nf fc, .int .i64 lo, .int .i64 code] 76)).alloc (.cells #[.pointer none, .slice none 0 0, .int .i64 0, .int .i64 0] 34)).alloc (.cells #[.slice none 0 0, .slice none 0 0, .int .i64 0, .int .i64 0] 36)).heap.size) := Lib.hid hsz.symm
  clear hsz
  generalize (((w.alloc (.cells #[.slice A ts.length c, .slice FA nf fc, .int .i64 lo, .int .i64 code] 76)).alloc (.cells #[.pointer none, .slice none 0 0, .int .i64 0, .int .i64 0] 34)).alloc (.cells #[.slice none 0 0, .slice none 0 0, .int .i64 0, .int .i64 0] 36)) = W0 at *
  refine (new_anyT A c ts W0 HT.out HM.out HP.out).mono ?_
  rintro e w1 (⟨m, hm, rfl, hb1⟩ | ⟨hok, g, rfl, hT1, hb1⟩)
  · have HB1 := Lib.hid hb1
    have d0 := cell_below hb1 c0
    have HR := Lib.hid (right3_calls A c ts w1 (HT.out.below hb1) HO.out)
    clear hb1
    go_wp2_with fail
    refine HR.out.mono ?_
    rintro e w2 ⟨i3, n3, rfl, hb2⟩
    have HB2 := Lib.hid (below_then HB1.out hb2)
    have hm0 : (m == 0) = false := beq_eq_false_iff_ne.2 hm
    clear HR hb2 HB1 d0 HT c0 c1 c2 c3 hm
    go_wp2_with fail
    rename_i KK hKK
    exact sc_tail A c ts FA fc nf lo code w w2 _ _ _ _ _ _ _ _ _ _ _ _ _ _ _ _ _ _ _ _ _ _ _ _ _ _ _ _ _ KK hKK (Lib.hid (below_then HB0.out HB2.out)) (Lib.hid (row_under HB2.out (by have := HSZ.out; omega) R1.out)) (Lib.hid (row_under HB2.out (by have := HSZ.out; omega) R2.out)) (Lib.hid (row_under HB2.out (by have := HSZ.out; omega) R3.out)) (Lib.hid (fun h => by cases h))
  · have HB1 := Lib.hid hb1
    have HTT := Lib.hid hT1
    have HOK := Lib.hid hok
    have d0 := cell_below hb1 c0
    have HR := Lib.hid (right3_calls A c ts w1 (HT.out.below hb1) HO.out)
    clear hb1 hT1 hok
    go_wp2_with fail
    refine HR.out.mono ?_
    rintro e w2 ⟨i3, n3, rfl, hb2⟩
    have HB2 := Lib.hid (below_then HB1.out hb2)
    have HTT2 := Lib.hid (HTT.out.below hb2)
    clear HR hb2 HB1 d0 HTT HT c0 c1 c2 c3
    by_cases hn3 : n3 = 0
    rotate_left
    · have hn30 : (n3 == 0) = false := beq_eq_false_iff_ne.2 hn3
      clear hn3
      go_wp2_with fail
      rename_i KK hKK
      exact sc_tail A c ts FA fc nf lo code w w2 _ _ _ _ _ _ _ _ _ _ _ _ _ _ _ _ _ _ _ _ _ _ _ _ _ _ _ _ _ KK hKK (Lib.hid (below_then HB0.out HB2.out)) (Lib.hid (row_under HB2.out (by have := HSZ.out; omega) R1.out)) (Lib.hid (row_under HB2.out (by have := HSZ.out; omega) R2.out)) (Lib.hid (row_under HB2.out (by have := HSZ.out; omega) R3.out)) (Lib.hid (fun h => by cases h))
    · subst hn3
      go_wp2_with fail
      rename_i KK hKK
      exact sc_tail A c ts FA fc nf lo code w w2 _ _ _ _ _ _ _ _ _ _ _ _ _ _ _ _ _ _ _ _ _ _ _ _ _ _ _ _ _ KK hKK (Lib.hid (below_then HB0.out HB2.out)) (Lib.hid (row_under HB2.out (by have := HSZ.out; omega) R1.out)) (Lib.hid (row_under HB2.out (by have := HSZ.out; omega) R2.out)) (Lib.hid (row_under HB2.out (by have := HSZ.out; omega) R3.out)) (Lib.hid (fun _ => ⟨g, rfl, HOK.out, HTT2.out⟩))
end Go.Proofs.YtdilmfnijkjiaaaDoor.K
