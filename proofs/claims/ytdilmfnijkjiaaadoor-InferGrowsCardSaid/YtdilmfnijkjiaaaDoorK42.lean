import Derived.Test.YtdilmfnijkjiaaaDoorK37
import Derived.Test.YtdilmfnijkjiaaaDoorK41
import Derived.Test.YtdilmfnijkjiaaaDoorK13c
import Derived.Deep.RegionHeld3
import Derived.Deep.RegionWith
import Derived.Deep.LoopGhost
import Derived.BigRegion
set_option maxRecDepth 100000
set_option linter.unusedSimpArgs false
set_option linter.unusedVariables false
namespace Go.Proofs.YtdilmfnijkjiaaaDoor.K
open Go.RowKit
/-- What scopes answers. -/
def ScPost (w : World) (A : Option Addr) (c : Nat) (ts : List Ty) (FA : Option Addr) (fc nf : Nat) (code k : Int) (e : Ending) (w' : World) : Prop :=
  ∃ (tv : Option Addr) (ok : Bool), e = .returned (.tuple #[.agg #[.pointer tv, .slice FA nf fc, .int .i64 k, .int .i64 code], .agg #[.slice A ts.length c, .slice FA nf fc, .int .i64 k, .int .i64 code], .bool ok]) ∧ Below w.heap.size w w' ∧
    (ok = true → ∃ g, tv = some ⟨g, 0, none⟩ ∧ tysOk ts ∧ Tab w' g (allOf ts))
theorem heap3 (w : World) (o1 o2 o3 : Obj) : (((w.alloc o1).alloc o2).alloc o3).heap[w.heap.size]? = some o1 ∧ (((w.alloc o1).alloc o2).alloc o3).heap[w.heap.size + 1]? = some o2 ∧ (((w.alloc o1).alloc o2).alloc o3).heap[w.heap.size + 2]? = some o3 := by
  have e2 : ((w.alloc o1).alloc o2).heap.size = w.heap.size + 2 := by simp
  refine ⟨(heap_alloc_old _ o3 (by omega)).trans (heap2 w o1 o2).1, (heap_alloc_old _ o3 (by omega)).trans (heap2 w o1 o2).2, ?_⟩
  have k := heap_alloc_new ((w.alloc o1).alloc o2) o3
  rwa [e2] at k
set_option maxHeartbeats 16000000 in
theorem scopes_calls (A : Option Addr) (c : Nat) (ts : List Ty) (FA : Option Addr) (fc : Nat) (fs : List Fn) (code res k : Int) (w : World) (hT : TySl w A c ts) (hm : ts.length * 40 ≤ 140737488351232) (hp : ∀ t ∈ ts, t.parts.length * 8 ≤ 140737488351232) (ho : ∀ t ∈ ts, t.of ≤ 9223372036854775807)
    (hF : FnSl w FA fc fs) (hfm : fs.length * 8 ≤ 140737488351232) (hres : res ≤ 9223372036854775807) (hfr : ∀ f ∈ fs, f.result ≤ 9223372036854775807 ∧ ∀ p ∈ f.params, p ≤ 9223372036854775807) :
    Calls Tryd.prog 20 #[.agg #[.slice A ts.length c, .slice FA fs.length fc, .int .i64 code, .int .i64 res], .int .i64 k] w (ScPost w A c ts FA fc fs.length code k) := by
  have b3 := heap3 w (.cells #[.slice A ts.length c, .slice FA fs.length fc, .int .i64 code, .int .i64 res] 25) (.cells #[.pointer none, .slice none 0 0, .int .i64 0, .int .i64 0] 34) (.cells #[.slice none 0 0, .slice none 0 0, .int .i64 0, .int .i64 0] 36)
  have hB0 := below_alloc' (o := .cells #[.slice none 0 0, .slice none 0 0, .int .i64 0, .int .i64 0] 36) (below_alloc' (o := .cells #[.pointer none, .slice none 0 0, .int .i64 0, .int .i64 0] 34) (below_alloc' (o := .cells #[.slice A ts.length c, .slice FA fs.length fc, .int .i64 code, .int .i64 res] 25) (below_refl w)))
  have HP := Lib.hid hp
  have HM := Lib.hid hm
  have HO := Lib.hid ho
  have HFR := Lib.hid hfr
  have HT := Lib.hid (hT.below hB0)
  have HF := Lib.hid (hF.below hB0)
  have HB0 := Lib.hid hB0
  have HK0 : Hid (∀ W n, TySl W A c ts → n ≤ 9223372036854775807 → Calls Tryd.prog 62 #[.slice A ts.length c, .int .i64 n] W fun e w' => e = .returned (.int .i64 (kOf (allOf ts) n)) ∧ W = w') := Lib.hid fun W n h hn => kind3_calls A c ts n W h hn
  clear hT hp ho hF hfr hm hB0
  go_enter Tryd.func20, Tryd.ntmps20
  have R1 := Lib.hid b3.1
  have R2 := Lib.hid b3.2.1
  have R3 := Lib.hid b3.2.2
  obtain ⟨c0, c1, c2, c3⟩ := cells4 b3.1
  clear b3
  go_wp2_with fail
  have hsz : (((w.alloc (.cells #[.slice A ts.length c, .slice FA fs.length fc, .int .i64 code, .int .i64 res] 25)).alloc (.cells #[.pointer none, .slice none 0 0, .int .i64 0, .int .i64 0] 34)).alloc (.cells #[.slice none 0 0, .slice none 0 0, .int .i64 0, .int .i64 0] 36)).heap.size = w.heap.size + 3 := by simp
  have HSZ : Hid (w.heap.size + 3 = (((w.alloc (.cells #[.slice A ts.length c, .slice FA fs.length fc, .int .i64 code, .int .i64 res] 25)).alloc (.cells #[.pointer none, .slice none 0 0, .int .i64 0, .int .i64 0] 34)).alloc (.cells #[.slice none 0 0, .slice none 0 0, .int .i64 0, .int .i64 0] 36)).heap.size) := Lib.hid hsz.symm
  clear hsz
  generalize (((w.alloc (.cells #[.slice A ts.length c, .slice FA fs.length fc, .int .i64 code, .int .i64 res] 25)).alloc (.cells #[.pointer none, .slice none 0 0, .int .i64 0, .int .i64 0] 34)).alloc (.cells #[.slice none 0 0, .slice none 0 0, .int .i64 0, .int .i64 0] 36)) = W0 at *
  refine (new_anyT A c ts W0 HT.out HM.out HP.out).mono ?_
  rintro e w1 (⟨m, hm, rfl, hb1⟩ | ⟨hok, g, rfl, hT1, hb1⟩)
  · have HB1 := Lib.hid hb1
    have d0 := cell_below hb1 c0
    have HR := Lib.hid (right3_calls A c ts w1 (HT.out.below hb1) HO.out)
    clear hb1
    go_wp2_with fail
    refine HR.out.mono ?_
    rintro e w2 ⟨i3, n3, rfl, hb2⟩
    have HB2 := Lib.hid (below_then HB1.out hb2)
    clear HR hb2 HB1 d0
    go_wp2_with fail
    go_loopw [11, 12, 13] (fun t11 t12 t13 wr => ∃ (i : Nat), i ≤ fs.length ∧ t11 = .bool false ∧ t12 = .int .i64 i ∧ Hid (Below W0.heap.size W0 wr)) (fun _ t12 _ _ => fs.length - (intOf t12).toNat)
    case atStart => exact ⟨0, Nat.zero_le _, rfl, rfl, HB2⟩
    case round =>
      obtain ⟨i, hi, rfl, rfl, HBI0⟩ := hrel
      obtain ⟨e0, e1, e2, e3⟩ := cells4 (row_below HBI0.out R1.out)
      by_cases hlt : i < fs.length
      · obtain ⟨ad, A', c', rfl, g0, g1, g2, g3⟩ := HF.out.get (i : Int) (by omega) (by omega)
        have hx : fnAt fs (i : Int) ∈ fs := by unfold fnAt; rw [List.getD_eq_getElem?_getD, Int.toNat_natCast, List.getElem?_eq_getElem hlt]; exact List.getElem_mem _
        obtain ⟨hrs, hpm⟩ := HFR.out _ hx
        clear hx
        rw [Int.toNat_natCast] at g0 g1
        generalize fnAt fs (i : Int) = f at *
        obtain ⟨prm, rst, lcl, cod⟩ := f
        have HPM := Lib.hid hpm
        have HPR := Lib.hid g2
        clear hpm g2
        have g0' := cell_below HBI0.out g0
        have g1' := cell_below HBI0.out g1
        have HBI := Lib.hid (below_drewN' (n := 0) HBI0.out)
        clear HBI
        go_wp2_with fail
        go_quiet (fail)
        have HBI := Lib.hid (below_drewN' (n := nq) HBI0.out)
        go_wp2_with fail
        go_loopw [11, 13] (fun t11 t13 wr => ∃ (j : Nat), j ≤ prm.length ∧ t11 = .bool false ∧ t13 = .int .i64 j ∧ Hid (Below W0.heap.size W0 wr)) (fun _ t13 _ => prm.length - (intOf t13).toNat)
        case atStart => exact ⟨0, Nat.zero_le _, rfl, rfl, HBI⟩
        case round =>
          obtain ⟨j, hj, rfl, rfl, HBJ⟩ := hrel
          obtain ⟨p0, p1, p2, p3⟩ := cells4 (row_below HBJ.out R1.out)
          have q0 := cell_below HBJ.out g0
          by_cases hjl : j < prm.length
          · obtain ⟨pd, rfl, hc⟩ := HPR.out.getI (j : Int) (by omega) (by omega)
            rw [Int.toNat_natCast] at hc
            have hpx : prm.getD j 0 ≤ 9223372036854775807 := HPM.out _ (by rw [List.getD_eq_getElem?_getD, List.getElem?_eq_getElem hjl]; exact List.getElem_mem _)
            have hc' := cell_below HBJ.out hc
            clear hc
            generalize prm.getD j 0 = x at *
            go_wp2_with fail
            go_quiet (fail)
            go_wp2_with fail
            go_roundw
            case rel => exact ⟨j + 1, by omega, rfl, by go_num, Lib.hid (below_drewN' HBJ.out)⟩
            case measure => simp [intOf]; omega
          · go_wp2_with fail
            go_roundw
            case rel => exact ⟨i + 1, by omega, rfl, by go_num, HBJ⟩
            case measure => simp [intOf]; omega
      · go_wp2_with fail
        have hrb := row_below HBI0.out R2.out
        have hrc := row_below HBI0.out R3.out
        obtain ⟨y0, y1, y2, y3⟩ := cells4 hrb
        obtain ⟨x0, x1, x2, x3⟩ := cells4 hrc
        have z0 := frozen_of_row _ _ 0 _ _ hrb
        have z1 := frozen_of_row _ _ 1 _ _ hrb
        have z2 := frozen_of_row _ _ 2 _ _ hrb
        have z3 := frozen_of_row _ _ 3 _ _ hrb
        have v0 := frozen_of_row _ _ 0 _ _ hrc
        have v1 := frozen_of_row _ _ 1 _ _ hrc
        have v2 := frozen_of_row _ _ 2 _ _ hrc
        have v3 := frozen_of_row _ _ 3 _ _ hrc
        have HBW := Lib.hid (below_then HB0.out HBI0.out)
        have HRB := Lib.hid hrb
        have HRC := Lib.hid hrc
        clear hrb hrc
        go_region
        go_wp2
        have r0 : (((((((((wr.setCell ⟨w.heap.size + 1, 0, none⟩ (.pointer none)).setCell ⟨w.heap.size + 1, 1, none⟩ (.slice FA fs.length fc)).setCell ⟨w.heap.size + 1, 2, none⟩ (.int .i64 k)).setCell ⟨w.heap.size + 1, 3, none⟩ (.int .i64 code)).setCell ⟨w.heap.size + 1 + 1, 0, none⟩ (.slice A ts.length c)).setCell ⟨w.heap.size + 1 + 1, 1, none⟩ (.slice FA fs.length fc)).setCell ⟨w.heap.size + 1 + 1, 2, none⟩ (.int .i64 k)).setCell ⟨w.heap.size + 1 + 1, 3, none⟩ (.int .i64 code)).drew).cell? ⟨w.heap.size + 1, 0, none⟩ = some (.pointer none) := by go_simp
        have r1 : (((((((((wr.setCell ⟨w.heap.size + 1, 0, none⟩ (.pointer none)).setCell ⟨w.heap.size + 1, 1, none⟩ (.slice FA fs.length fc)).setCell ⟨w.heap.size + 1, 2, none⟩ (.int .i64 k)).setCell ⟨w.heap.size + 1, 3, none⟩ (.int .i64 code)).setCell ⟨w.heap.size + 1 + 1, 0, none⟩ (.slice A ts.length c)).setCell ⟨w.heap.size + 1 + 1, 1, none⟩ (.slice FA fs.length fc)).setCell ⟨w.heap.size + 1 + 1, 2, none⟩ (.int .i64 k)).setCell ⟨w.heap.size + 1 + 1, 3, none⟩ (.int .i64 code)).drew).cell? ⟨w.heap.size + 1, 1, none⟩ = some (.slice FA fs.length fc) := by go_simp
        have r2 : (((((((((wr.setCell ⟨w.heap.size + 1, 0, none⟩ (.pointer none)).setCell ⟨w.heap.size + 1, 1, none⟩ (.slice FA fs.length fc)).setCell ⟨w.heap.size + 1, 2, none⟩ (.int .i64 k)).setCell ⟨w.heap.size + 1, 3, none⟩ (.int .i64 code)).setCell ⟨w.heap.size + 1 + 1, 0, none⟩ (.slice A ts.length c)).setCell ⟨w.heap.size + 1 + 1, 1, none⟩ (.slice FA fs.length fc)).setCell ⟨w.heap.size + 1 + 1, 2, none⟩ (.int .i64 k)).setCell ⟨w.heap.size + 1 + 1, 3, none⟩ (.int .i64 code)).drew).cell? ⟨w.heap.size + 1, 2, none⟩ = some (.int .i64 k) := by go_simp
        have r3 : (((((((((wr.setCell ⟨w.heap.size + 1, 0, none⟩ (.pointer none)).setCell ⟨w.heap.size + 1, 1, none⟩ (.slice FA fs.length fc)).setCell ⟨w.heap.size + 1, 2, none⟩ (.int .i64 k)).setCell ⟨w.heap.size + 1, 3, none⟩ (.int .i64 code)).setCell ⟨w.heap.size + 1 + 1, 0, none⟩ (.slice A ts.length c)).setCell ⟨w.heap.size + 1 + 1, 1, none⟩ (.slice FA fs.length fc)).setCell ⟨w.heap.size + 1 + 1, 2, none⟩ (.int .i64 k)).setCell ⟨w.heap.size + 1 + 1, 3, none⟩ (.int .i64 code)).drew).cell? ⟨w.heap.size + 1, 3, none⟩ = some (.int .i64 code) := by go_simp
        have s0 : (((((((((wr.setCell ⟨w.heap.size + 1, 0, none⟩ (.pointer none)).setCell ⟨w.heap.size + 1, 1, none⟩ (.slice FA fs.length fc)).setCell ⟨w.heap.size + 1, 2, none⟩ (.int .i64 k)).setCell ⟨w.heap.size + 1, 3, none⟩ (.int .i64 code)).setCell ⟨w.heap.size + 1 + 1, 0, none⟩ (.slice A ts.length c)).setCell ⟨w.heap.size + 1 + 1, 1, none⟩ (.slice FA fs.length fc)).setCell ⟨w.heap.size + 1 + 1, 2, none⟩ (.int .i64 k)).setCell ⟨w.heap.size + 1 + 1, 3, none⟩ (.int .i64 code)).drew).cell? ⟨w.heap.size + 1 + 1, 0, none⟩ = some (.slice A ts.length c) := by go_simp
        have s1 : (((((((((wr.setCell ⟨w.heap.size + 1, 0, none⟩ (.pointer none)).setCell ⟨w.heap.size + 1, 1, none⟩ (.slice FA fs.length fc)).setCell ⟨w.heap.size + 1, 2, none⟩ (.int .i64 k)).setCell ⟨w.heap.size + 1, 3, none⟩ (.int .i64 code)).setCell ⟨w.heap.size + 1 + 1, 0, none⟩ (.slice A ts.length c)).setCell ⟨w.heap.size + 1 + 1, 1, none⟩ (.slice FA fs.length fc)).setCell ⟨w.heap.size + 1 + 1, 2, none⟩ (.int .i64 k)).setCell ⟨w.heap.size + 1 + 1, 3, none⟩ (.int .i64 code)).drew).cell? ⟨w.heap.size + 1 + 1, 1, none⟩ = some (.slice FA fs.length fc) := by go_simp
        have s2 : (((((((((wr.setCell ⟨w.heap.size + 1, 0, none⟩ (.pointer none)).setCell ⟨w.heap.size + 1, 1, none⟩ (.slice FA fs.length fc)).setCell ⟨w.heap.size + 1, 2, none⟩ (.int .i64 k)).setCell ⟨w.heap.size + 1, 3, none⟩ (.int .i64 code)).setCell ⟨w.heap.size + 1 + 1, 0, none⟩ (.slice A ts.length c)).setCell ⟨w.heap.size + 1 + 1, 1, none⟩ (.slice FA fs.length fc)).setCell ⟨w.heap.size + 1 + 1, 2, none⟩ (.int .i64 k)).setCell ⟨w.heap.size + 1 + 1, 3, none⟩ (.int .i64 code)).drew).cell? ⟨w.heap.size + 1 + 1, 2, none⟩ = some (.int .i64 k) := by go_simp
        have s3 : (((((((((wr.setCell ⟨w.heap.size + 1, 0, none⟩ (.pointer none)).setCell ⟨w.heap.size + 1, 1, none⟩ (.slice FA fs.length fc)).setCell ⟨w.heap.size + 1, 2, none⟩ (.int .i64 k)).setCell ⟨w.heap.size + 1, 3, none⟩ (.int .i64 code)).setCell ⟨w.heap.size + 1 + 1, 0, none⟩ (.slice A ts.length c)).setCell ⟨w.heap.size + 1 + 1, 1, none⟩ (.slice FA fs.length fc)).setCell ⟨w.heap.size + 1 + 1, 2, none⟩ (.int .i64 k)).setCell ⟨w.heap.size + 1 + 1, 3, none⟩ (.int .i64 code)).drew).cell? ⟨w.heap.size + 1 + 1, 3, none⟩ = some (.int .i64 code) := by go_simp

        have hbe : Below w.heap.size w (((((((((wr.setCell ⟨w.heap.size + 1, 0, none⟩ (.pointer none)).setCell ⟨w.heap.size + 1, 1, none⟩ (.slice FA fs.length fc)).setCell ⟨w.heap.size + 1, 2, none⟩ (.int .i64 k)).setCell ⟨w.heap.size + 1, 3, none⟩ (.int .i64 code)).setCell ⟨w.heap.size + 1 + 1, 0, none⟩ (.slice A ts.length c)).setCell ⟨w.heap.size + 1 + 1, 1, none⟩ (.slice FA fs.length fc)).setCell ⟨w.heap.size + 1 + 1, 2, none⟩ (.int .i64 k)).setCell ⟨w.heap.size + 1 + 1, 3, none⟩ (.int .i64 code)).drew) := below_drew' (below_set4 (below_set4 HBW.out (by omega)) (by omega))
        generalize (((((((((wr.setCell ⟨w.heap.size + 1, 0, none⟩ (.pointer none)).setCell ⟨w.heap.size + 1, 1, none⟩ (.slice FA fs.length fc)).setCell ⟨w.heap.size + 1, 2, none⟩ (.int .i64 k)).setCell ⟨w.heap.size + 1, 3, none⟩ (.int .i64 code)).setCell ⟨w.heap.size + 1 + 1, 0, none⟩ (.slice A ts.length c)).setCell ⟨w.heap.size + 1 + 1, 1, none⟩ (.slice FA fs.length fc)).setCell ⟨w.heap.size + 1 + 1, 2, none⟩ (.int .i64 k)).setCell ⟨w.heap.size + 1 + 1, 3, none⟩ (.int .i64 code)).drew) = Wf at *
        exact bodyPost_ret (v := .tuple #[.agg #[.pointer none, .slice FA fs.length fc, .int .i64 k, .int .i64 code], .agg #[.slice A ts.length c, .slice FA fs.length fc, .int .i64 k, .int .i64 code], .bool false]) (by simp [results, Tryd.results20, go_sem, r0, r1, r2, r3, s0, s1, s2, s3]) rfl ⟨_, _, rfl, hbe, fun h => by cases h⟩
  · have HB1 := Lib.hid hb1
    have HTT := Lib.hid hT1
    have HOK := Lib.hid hok
    have d0 := cell_below hb1 c0
    have HR := Lib.hid (right3_calls A c ts w1 (HT.out.below hb1) HO.out)
    clear hb1 hT1 hok
    go_wp2_with fail
    refine HR.out.mono ?_
    rintro e w2 ⟨i3, n3, rfl, hb2⟩
    have HB2 := Lib.hid (below_then HB1.out hb2)
    have HTT2 := Lib.hid (HTT.out.below hb2)
    clear HR hb2 HB1 d0 HTT
    by_cases hn3 : n3 = 0
    rotate_left
    · go_wp2_with fail
      go_loopw [11, 12, 13] (fun t11 t12 t13 wr => ∃ (i : Nat), i ≤ fs.length ∧ t11 = .bool false ∧ t12 = .int .i64 i ∧ Hid (Below W0.heap.size W0 wr)) (fun _ t12 _ _ => fs.length - (intOf t12).toNat)
      case atStart => exact ⟨0, Nat.zero_le _, rfl, rfl, HB2⟩
      case round =>
        obtain ⟨i, hi, rfl, rfl, HBI0⟩ := hrel
        obtain ⟨e0, e1, e2, e3⟩ := cells4 (row_below HBI0.out R1.out)
        by_cases hlt : i < fs.length
        · obtain ⟨ad, A', c', rfl, g0, g1, g2, g3⟩ := HF.out.get (i : Int) (by omega) (by omega)
          have hx : fnAt fs (i : Int) ∈ fs := by unfold fnAt; rw [List.getD_eq_getElem?_getD, Int.toNat_natCast, List.getElem?_eq_getElem hlt]; exact List.getElem_mem _
          obtain ⟨hrs, hpm⟩ := HFR.out _ hx
          clear hx
          rw [Int.toNat_natCast] at g0 g1
          generalize fnAt fs (i : Int) = f at *
          obtain ⟨prm, rst, lcl, cod⟩ := f
          have HPM := Lib.hid hpm
          have HPR := Lib.hid g2
          clear hpm g2
          have g0' := cell_below HBI0.out g0
          have g1' := cell_below HBI0.out g1
          have HBI := Lib.hid (below_drewN' (n := 0) HBI0.out)
          clear HBI
          go_wp2_with fail
          go_quiet (fail)
          have HBI := Lib.hid (below_drewN' (n := nq) HBI0.out)
          go_wp2_with fail
          go_loopw [11, 13] (fun t11 t13 wr => ∃ (j : Nat), j ≤ prm.length ∧ t11 = .bool false ∧ t13 = .int .i64 j ∧ Hid (Below W0.heap.size W0 wr)) (fun _ t13 _ => prm.length - (intOf t13).toNat)
          case atStart => exact ⟨0, Nat.zero_le _, rfl, rfl, HBI⟩
          case round =>
            obtain ⟨j, hj, rfl, rfl, HBJ⟩ := hrel
            obtain ⟨p0, p1, p2, p3⟩ := cells4 (row_below HBJ.out R1.out)
            have q0 := cell_below HBJ.out g0
            by_cases hjl : j < prm.length
            · obtain ⟨pd, rfl, hc⟩ := HPR.out.getI (j : Int) (by omega) (by omega)
              rw [Int.toNat_natCast] at hc
              have hpx : prm.getD j 0 ≤ 9223372036854775807 := HPM.out _ (by rw [List.getD_eq_getElem?_getD, List.getElem?_eq_getElem hjl]; exact List.getElem_mem _)
              have hc' := cell_below HBJ.out hc
              clear hc
              generalize prm.getD j 0 = x at *
              go_wp2_with fail
              go_quiet (fail)
              go_wp2_with fail
              go_roundw
              case rel => exact ⟨j + 1, by omega, rfl, by go_num, Lib.hid (below_drewN' HBJ.out)⟩
              case measure => simp [intOf]; omega
            · go_wp2_with fail
              go_roundw
              case rel => exact ⟨i + 1, by omega, rfl, by go_num, HBJ⟩
              case measure => simp [intOf]; omega
        · go_wp2_with fail
          have hrb := row_below HBI0.out R2.out
          have hrc := row_below HBI0.out R3.out
          obtain ⟨y0, y1, y2, y3⟩ := cells4 hrb
          obtain ⟨x0, x1, x2, x3⟩ := cells4 hrc
          have z0 := frozen_of_row _ _ 0 _ _ hrb
          have z1 := frozen_of_row _ _ 1 _ _ hrb
          have z2 := frozen_of_row _ _ 2 _ _ hrb
          have z3 := frozen_of_row _ _ 3 _ _ hrb
          have v0 := frozen_of_row _ _ 0 _ _ hrc
          have v1 := frozen_of_row _ _ 1 _ _ hrc
          have v2 := frozen_of_row _ _ 2 _ _ hrc
          have v3 := frozen_of_row _ _ 3 _ _ hrc
          have HBW := Lib.hid (below_then HB0.out HBI0.out)
          have HRB := Lib.hid hrb
          have HRC := Lib.hid hrc
          clear hrb hrc
          go_region
          go_wp2
          have r0 : (((((((((wr.setCell ⟨w.heap.size + 1, 0, none⟩ (.pointer (some ⟨g, 0, none⟩))).setCell ⟨w.heap.size + 1, 1, none⟩ (.slice FA fs.length fc)).setCell ⟨w.heap.size + 1, 2, none⟩ (.int .i64 k)).setCell ⟨w.heap.size + 1, 3, none⟩ (.int .i64 code)).setCell ⟨w.heap.size + 1 + 1, 0, none⟩ (.slice A ts.length c)).setCell ⟨w.heap.size + 1 + 1, 1, none⟩ (.slice FA fs.length fc)).setCell ⟨w.heap.size + 1 + 1, 2, none⟩ (.int .i64 k)).setCell ⟨w.heap.size + 1 + 1, 3, none⟩ (.int .i64 code)).drew).cell? ⟨w.heap.size + 1, 0, none⟩ = some (.pointer (some ⟨g, 0, none⟩)) := by go_simp
          have r1 : (((((((((wr.setCell ⟨w.heap.size + 1, 0, none⟩ (.pointer (some ⟨g, 0, none⟩))).setCell ⟨w.heap.size + 1, 1, none⟩ (.slice FA fs.length fc)).setCell ⟨w.heap.size + 1, 2, none⟩ (.int .i64 k)).setCell ⟨w.heap.size + 1, 3, none⟩ (.int .i64 code)).setCell ⟨w.heap.size + 1 + 1, 0, none⟩ (.slice A ts.length c)).setCell ⟨w.heap.size + 1 + 1, 1, none⟩ (.slice FA fs.length fc)).setCell ⟨w.heap.size + 1 + 1, 2, none⟩ (.int .i64 k)).setCell ⟨w.heap.size + 1 + 1, 3, none⟩ (.int .i64 code)).drew).cell? ⟨w.heap.size + 1, 1, none⟩ = some (.slice FA fs.length fc) := by go_simp
          have r2 : (((((((((wr.setCell ⟨w.heap.size + 1, 0, none⟩ (.pointer (some ⟨g, 0, none⟩))).setCell ⟨w.heap.size + 1, 1, none⟩ (.slice FA fs.length fc)).setCell ⟨w.heap.size + 1, 2, none⟩ (.int .i64 k)).setCell ⟨w.heap.size + 1, 3, none⟩ (.int .i64 code)).setCell ⟨w.heap.size + 1 + 1, 0, none⟩ (.slice A ts.length c)).setCell ⟨w.heap.size + 1 + 1, 1, none⟩ (.slice FA fs.length fc)).setCell ⟨w.heap.size + 1 + 1, 2, none⟩ (.int .i64 k)).setCell ⟨w.heap.size + 1 + 1, 3, none⟩ (.int .i64 code)).drew).cell? ⟨w.heap.size + 1, 2, none⟩ = some (.int .i64 k) := by go_simp
          have r3 : (((((((((wr.setCell ⟨w.heap.size + 1, 0, none⟩ (.pointer (some ⟨g, 0, none⟩))).setCell ⟨w.heap.size + 1, 1, none⟩ (.slice FA fs.length fc)).setCell ⟨w.heap.size + 1, 2, none⟩ (.int .i64 k)).setCell ⟨w.heap.size + 1, 3, none⟩ (.int .i64 code)).setCell ⟨w.heap.size + 1 + 1, 0, none⟩ (.slice A ts.length c)).setCell ⟨w.heap.size + 1 + 1, 1, none⟩ (.slice FA fs.length fc)).setCell ⟨w.heap.size + 1 + 1, 2, none⟩ (.int .i64 k)).setCell ⟨w.heap.size + 1 + 1, 3, none⟩ (.int .i64 code)).drew).cell? ⟨w.heap.size + 1, 3, none⟩ = some (.int .i64 code) := by go_simp
          have s0 : (((((((((wr.setCell ⟨w.heap.size + 1, 0, none⟩ (.pointer (some ⟨g, 0, none⟩))).setCell ⟨w.heap.size + 1, 1, none⟩ (.slice FA fs.length fc)).setCell ⟨w.heap.size + 1, 2, none⟩ (.int .i64 k)).setCell ⟨w.heap.size + 1, 3, none⟩ (.int .i64 code)).setCell ⟨w.heap.size + 1 + 1, 0, none⟩ (.slice A ts.length c)).setCell ⟨w.heap.size + 1 + 1, 1, none⟩ (.slice FA fs.length fc)).setCell ⟨w.heap.size + 1 + 1, 2, none⟩ (.int .i64 k)).setCell ⟨w.heap.size + 1 + 1, 3, none⟩ (.int .i64 code)).drew).cell? ⟨w.heap.size + 1 + 1, 0, none⟩ = some (.slice A ts.length c) := by go_simp
          have s1 : (((((((((wr.setCell ⟨w.heap.size + 1, 0, none⟩ (.pointer (some ⟨g, 0, none⟩))).setCell ⟨w.heap.size + 1, 1, none⟩ (.slice FA fs.length fc)).setCell ⟨w.heap.size + 1, 2, none⟩ (.int .i64 k)).setCell ⟨w.heap.size + 1, 3, none⟩ (.int .i64 code)).setCell ⟨w.heap.size + 1 + 1, 0, none⟩ (.slice A ts.length c)).setCell ⟨w.heap.size + 1 + 1, 1, none⟩ (.slice FA fs.length fc)).setCell ⟨w.heap.size + 1 + 1, 2, none⟩ (.int .i64 k)).setCell ⟨w.heap.size + 1 + 1, 3, none⟩ (.int .i64 code)).drew).cell? ⟨w.heap.size + 1 + 1, 1, none⟩ = some (.slice FA fs.length fc) := by go_simp
          have s2 : (((((((((wr.setCell ⟨w.heap.size + 1, 0, none⟩ (.pointer (some ⟨g, 0, none⟩))).setCell ⟨w.heap.size + 1, 1, none⟩ (.slice FA fs.length fc)).setCell ⟨w.heap.size + 1, 2, none⟩ (.int .i64 k)).setCell ⟨w.heap.size + 1, 3, none⟩ (.int .i64 code)).setCell ⟨w.heap.size + 1 + 1, 0, none⟩ (.slice A ts.length c)).setCell ⟨w.heap.size + 1 + 1, 1, none⟩ (.slice FA fs.length fc)).setCell ⟨w.heap.size + 1 + 1, 2, none⟩ (.int .i64 k)).setCell ⟨w.heap.size + 1 + 1, 3, none⟩ (.int .i64 code)).drew).cell? ⟨w.heap.size + 1 + 1, 2, none⟩ = some (.int .i64 k) := by go_simp
          have s3 : (((((((((wr.setCell ⟨w.heap.size + 1, 0, none⟩ (.pointer (some ⟨g, 0, none⟩))).setCell ⟨w.heap.size + 1, 1, none⟩ (.slice FA fs.length fc)).setCell ⟨w.heap.size + 1, 2, none⟩ (.int .i64 k)).setCell ⟨w.heap.size + 1, 3, none⟩ (.int .i64 code)).setCell ⟨w.heap.size + 1 + 1, 0, none⟩ (.slice A ts.length c)).setCell ⟨w.heap.size + 1 + 1, 1, none⟩ (.slice FA fs.length fc)).setCell ⟨w.heap.size + 1 + 1, 2, none⟩ (.int .i64 k)).setCell ⟨w.heap.size + 1 + 1, 3, none⟩ (.int .i64 code)).drew).cell? ⟨w.heap.size + 1 + 1, 3, none⟩ = some (.int .i64 code) := by go_simp

          have hbe : Below w.heap.size w (((((((((wr.setCell ⟨w.heap.size + 1, 0, none⟩ (.pointer (some ⟨g, 0, none⟩))).setCell ⟨w.heap.size + 1, 1, none⟩ (.slice FA fs.length fc)).setCell ⟨w.heap.size + 1, 2, none⟩ (.int .i64 k)).setCell ⟨w.heap.size + 1, 3, none⟩ (.int .i64 code)).setCell ⟨w.heap.size + 1 + 1, 0, none⟩ (.slice A ts.length c)).setCell ⟨w.heap.size + 1 + 1, 1, none⟩ (.slice FA fs.length fc)).setCell ⟨w.heap.size + 1 + 1, 2, none⟩ (.int .i64 k)).setCell ⟨w.heap.size + 1 + 1, 3, none⟩ (.int .i64 code)).drew) := below_drew' (below_set4 (below_set4 HBW.out (by omega)) (by omega))
          generalize (((((((((wr.setCell ⟨w.heap.size + 1, 0, none⟩ (.pointer (some ⟨g, 0, none⟩))).setCell ⟨w.heap.size + 1, 1, none⟩ (.slice FA fs.length fc)).setCell ⟨w.heap.size + 1, 2, none⟩ (.int .i64 k)).setCell ⟨w.heap.size + 1, 3, none⟩ (.int .i64 code)).setCell ⟨w.heap.size + 1 + 1, 0, none⟩ (.slice A ts.length c)).setCell ⟨w.heap.size + 1 + 1, 1, none⟩ (.slice FA fs.length fc)).setCell ⟨w.heap.size + 1 + 1, 2, none⟩ (.int .i64 k)).setCell ⟨w.heap.size + 1 + 1, 3, none⟩ (.int .i64 code)).drew) = Wf at *
          exact bodyPost_ret (v := .tuple #[.agg #[.pointer (some ⟨g, 0, none⟩), .slice FA fs.length fc, .int .i64 k, .int .i64 code], .agg #[.slice A ts.length c, .slice FA fs.length fc, .int .i64 k, .int .i64 code], .bool false]) (by simp [results, Tryd.results20, go_sem, r0, r1, r2, r3, s0, s1, s2, s3]) rfl ⟨_, _, rfl, hbe, fun h => by cases h⟩
    · subst hn3
      have f0 := cell_below HB2.out c0
      have f3 := cell_below HB2.out c3
      go_wp2_with fail
      refine (HK0.out _ res (HT.out.below HB2.out) hres).mono ?_
      rintro e w3 ⟨rfl, rfl⟩
      generalize kOf (allOf ts) res = v at *
      clear f0 f3
      go_wp2_with fail
      go_loopw [11, 12, 13] (fun t11 t12 t13 wr => ∃ (b : Bool) (i : Nat), i ≤ fs.length ∧ t11 = .bool b ∧ t12 = .int .i64 i ∧ Hid (Below W0.heap.size W0 wr) ∧ Hid (Below w2.heap.size w2 wr)) (fun _ t12 _ _ => fs.length - (intOf t12).toNat)
      case atStart => exact ⟨_, 0, Nat.zero_le _, rfl, rfl, HB2, Lib.hid (below_refl w2)⟩
      case round =>
        obtain ⟨b, i, hi, rfl, rfl, HBI0, HBT⟩ := hrel
        obtain ⟨e0, e1, e2, e3⟩ := cells4 (row_below HBI0.out R1.out)
        by_cases hlt : i < fs.length
        · obtain ⟨ad, A', c', rfl, g0, g1, g2, g3⟩ := HF.out.get (i : Int) (by omega) (by omega)
          have hx : fnAt fs (i : Int) ∈ fs := by unfold fnAt; rw [List.getD_eq_getElem?_getD, Int.toNat_natCast, List.getElem?_eq_getElem hlt]; exact List.getElem_mem _
          obtain ⟨hrs, hpm⟩ := HFR.out _ hx
          clear hx
          rw [Int.toNat_natCast] at g0 g1
          generalize fnAt fs (i : Int) = f at *
          obtain ⟨prm, rst, lcl, cod⟩ := f
          have HPM := Lib.hid hpm
          have HPR := Lib.hid g2
          clear hpm g2
          have g0' := cell_below HBI0.out g0
          have g1' := cell_below HBI0.out g1
          have HBI := Lib.hid (below_drewN' (n := 0) HBI0.out)
          clear HBI
          cases b
          · go_wp2_with fail
            go_quiet (fail)
            have HBI := Lib.hid (below_drewN' (n := nq) HBI0.out)
            have HBIT := Lib.hid (below_drewN' (n := nq) HBT.out)
            go_wp2_with fail
            go_loopw [11, 13] (fun t11 t13 wr => ∃ (b' : Bool) (j : Nat), j ≤ prm.length ∧ t11 = .bool b' ∧ t13 = .int .i64 j ∧ Hid (Below W0.heap.size W0 wr) ∧ Hid (Below w2.heap.size w2 wr)) (fun _ t13 _ => prm.length - (intOf t13).toNat)
            case atStart => exact ⟨_, 0, Nat.zero_le _, rfl, rfl, HBI, HBIT⟩
            case round =>
              obtain ⟨b', j, hj, rfl, rfl, HBJ, HBJT⟩ := hrel
              obtain ⟨p0, p1, p2, p3⟩ := cells4 (row_below HBJ.out R1.out)
              have q0 := cell_below HBJ.out g0
              by_cases hjl : j < prm.length
              · obtain ⟨pd, rfl, hc⟩ := HPR.out.getI (j : Int) (by omega) (by omega)
                rw [Int.toNat_natCast] at hc
                have hpx : prm.getD j 0 ≤ 9223372036854775807 := HPM.out _ (by rw [List.getD_eq_getElem?_getD, List.getElem?_eq_getElem hjl]; exact List.getElem_mem _)
                have hc' := cell_below HBJ.out hc
                clear hc
                generalize prm.getD j 0 = x at *
                cases b'
                · go_wp2_with fail
                  go_quiet (fail)
                  go_wp2_with fail
                  go_roundw
                  case rel => exact ⟨_, j + 1, by omega, rfl, by go_num, Lib.hid (below_drewN' HBJ.out), Lib.hid (below_drewN' HBJT.out)⟩
                  case measure => simp [intOf]; omega
                · have HQ : Hid (∀ m, Calls Tryd.prog 62 #[.slice A ts.length c, .int .i64 x] (wr.drewN m) fun e w' => e = .returned (.int .i64 (kOf (allOf ts) x)) ∧ wr.drewN m = w') := Lib.hid fun m => HK0.out _ x (HT.out.below (below_drewN' HBJ.out)) hpx
                  clear hpx
                  generalize kOf (allOf ts) x = v at *
                  go_wp2_with fail
                  go_quiet ((go_at_call 62; exact (HQ.out _).mono fun _ _ h => ⟨h.1, ⟨_, h.2.symm⟩⟩))
                  go_wp2_with fail
                  go_roundw
                  case rel => exact ⟨_, j + 1, by omega, rfl, by go_num, Lib.hid (below_drewN' HBJ.out), Lib.hid (below_drewN' HBJT.out)⟩
                  case measure => simp [intOf]; omega
              · go_wp2_with fail
                go_roundw
                case rel => exact ⟨b', i + 1, by omega, rfl, by go_num, HBJ, HBJT⟩
                case measure => simp [intOf]; omega
          · have HQ : Hid (∀ m, Calls Tryd.prog 62 #[.slice A ts.length c, .int .i64 rst] (wr.drewN m) fun e w' => e = .returned (.int .i64 (kOf (allOf ts) rst)) ∧ wr.drewN m = w') := Lib.hid fun m => HK0.out _ rst (HT.out.below (below_drewN' HBI0.out)) hrs
            generalize kOf (allOf ts) rst = v at *
            go_wp2_with fail
            go_quiet ((go_at_call 62; exact (HQ.out _).mono fun _ _ h => ⟨h.1, ⟨_, h.2.symm⟩⟩))
            have HBI := Lib.hid (below_drewN' (n := nq) HBI0.out)
            have HBIT := Lib.hid (below_drewN' (n := nq) HBT.out)
            go_wp2_with fail
            go_loopw [11, 13] (fun t11 t13 wr => ∃ (b' : Bool) (j : Nat), j ≤ prm.length ∧ t11 = .bool b' ∧ t13 = .int .i64 j ∧ Hid (Below W0.heap.size W0 wr) ∧ Hid (Below w2.heap.size w2 wr)) (fun _ t13 _ => prm.length - (intOf t13).toNat)
            case atStart => exact ⟨_, 0, Nat.zero_le _, rfl, rfl, HBI, HBIT⟩
            case round =>
              obtain ⟨b', j, hj, rfl, rfl, HBJ, HBJT⟩ := hrel
              obtain ⟨p0, p1, p2, p3⟩ := cells4 (row_below HBJ.out R1.out)
              have q0 := cell_below HBJ.out g0
              by_cases hjl : j < prm.length
              · obtain ⟨pd, rfl, hc⟩ := HPR.out.getI (j : Int) (by omega) (by omega)
                rw [Int.toNat_natCast] at hc
                have hpx : prm.getD j 0 ≤ 9223372036854775807 := HPM.out _ (by rw [List.getD_eq_getElem?_getD, List.getElem?_eq_getElem hjl]; exact List.getElem_mem _)
                have hc' := cell_below HBJ.out hc
                clear hc
                generalize prm.getD j 0 = x at *
                cases b'
                · go_wp2_with fail
                  go_quiet (fail)
                  go_wp2_with fail
                  go_roundw
                  case rel => exact ⟨_, j + 1, by omega, rfl, by go_num, Lib.hid (below_drewN' HBJ.out), Lib.hid (below_drewN' HBJT.out)⟩
                  case measure => simp [intOf]; omega
                · have HQ : Hid (∀ m, Calls Tryd.prog 62 #[.slice A ts.length c, .int .i64 x] (wr.drewN m) fun e w' => e = .returned (.int .i64 (kOf (allOf ts) x)) ∧ wr.drewN m = w') := Lib.hid fun m => HK0.out _ x (HT.out.below (below_drewN' HBJ.out)) hpx
                  clear hpx
                  generalize kOf (allOf ts) x = v at *
                  go_wp2_with fail
                  go_quiet ((go_at_call 62; exact (HQ.out _).mono fun _ _ h => ⟨h.1, ⟨_, h.2.symm⟩⟩))
                  go_wp2_with fail
                  go_roundw
                  case rel => exact ⟨_, j + 1, by omega, rfl, by go_num, Lib.hid (below_drewN' HBJ.out), Lib.hid (below_drewN' HBJT.out)⟩
                  case measure => simp [intOf]; omega
              · go_wp2_with fail
                go_roundw
                case rel => exact ⟨b', i + 1, by omega, rfl, by go_num, HBJ, HBJT⟩
                case measure => simp [intOf]; omega
        · go_wp2_with fail
          have hrb := row_below HBI0.out R2.out
          have hrc := row_below HBI0.out R3.out
          obtain ⟨y0, y1, y2, y3⟩ := cells4 hrb
          obtain ⟨x0, x1, x2, x3⟩ := cells4 hrc
          have z0 := frozen_of_row _ _ 0 _ _ hrb
          have z1 := frozen_of_row _ _ 1 _ _ hrb
          have z2 := frozen_of_row _ _ 2 _ _ hrb
          have z3 := frozen_of_row _ _ 3 _ _ hrb
          have v0 := frozen_of_row _ _ 0 _ _ hrc
          have v1 := frozen_of_row _ _ 1 _ _ hrc
          have v2 := frozen_of_row _ _ 2 _ _ hrc
          have v3 := frozen_of_row _ _ 3 _ _ hrc
          have HBW := Lib.hid (below_then HB0.out HBI0.out)
          have HRB := Lib.hid hrb
          have HRC := Lib.hid hrc
          clear hrb hrc
          go_region
          go_wp2
          have r0 : (((((((((wr.setCell ⟨w.heap.size + 1, 0, none⟩ (.pointer (some ⟨g, 0, none⟩))).setCell ⟨w.heap.size + 1, 1, none⟩ (.slice FA fs.length fc)).setCell ⟨w.heap.size + 1, 2, none⟩ (.int .i64 k)).setCell ⟨w.heap.size + 1, 3, none⟩ (.int .i64 code)).setCell ⟨w.heap.size + 1 + 1, 0, none⟩ (.slice A ts.length c)).setCell ⟨w.heap.size + 1 + 1, 1, none⟩ (.slice FA fs.length fc)).setCell ⟨w.heap.size + 1 + 1, 2, none⟩ (.int .i64 k)).setCell ⟨w.heap.size + 1 + 1, 3, none⟩ (.int .i64 code)).drew).cell? ⟨w.heap.size + 1, 0, none⟩ = some (.pointer (some ⟨g, 0, none⟩)) := by go_simp
          have r1 : (((((((((wr.setCell ⟨w.heap.size + 1, 0, none⟩ (.pointer (some ⟨g, 0, none⟩))).setCell ⟨w.heap.size + 1, 1, none⟩ (.slice FA fs.length fc)).setCell ⟨w.heap.size + 1, 2, none⟩ (.int .i64 k)).setCell ⟨w.heap.size + 1, 3, none⟩ (.int .i64 code)).setCell ⟨w.heap.size + 1 + 1, 0, none⟩ (.slice A ts.length c)).setCell ⟨w.heap.size + 1 + 1, 1, none⟩ (.slice FA fs.length fc)).setCell ⟨w.heap.size + 1 + 1, 2, none⟩ (.int .i64 k)).setCell ⟨w.heap.size + 1 + 1, 3, none⟩ (.int .i64 code)).drew).cell? ⟨w.heap.size + 1, 1, none⟩ = some (.slice FA fs.length fc) := by go_simp
          have r2 : (((((((((wr.setCell ⟨w.heap.size + 1, 0, none⟩ (.pointer (some ⟨g, 0, none⟩))).setCell ⟨w.heap.size + 1, 1, none⟩ (.slice FA fs.length fc)).setCell ⟨w.heap.size + 1, 2, none⟩ (.int .i64 k)).setCell ⟨w.heap.size + 1, 3, none⟩ (.int .i64 code)).setCell ⟨w.heap.size + 1 + 1, 0, none⟩ (.slice A ts.length c)).setCell ⟨w.heap.size + 1 + 1, 1, none⟩ (.slice FA fs.length fc)).setCell ⟨w.heap.size + 1 + 1, 2, none⟩ (.int .i64 k)).setCell ⟨w.heap.size + 1 + 1, 3, none⟩ (.int .i64 code)).drew).cell? ⟨w.heap.size + 1, 2, none⟩ = some (.int .i64 k) := by go_simp
          have r3 : (((((((((wr.setCell ⟨w.heap.size + 1, 0, none⟩ (.pointer (some ⟨g, 0, none⟩))).setCell ⟨w.heap.size + 1, 1, none⟩ (.slice FA fs.length fc)).setCell ⟨w.heap.size + 1, 2, none⟩ (.int .i64 k)).setCell ⟨w.heap.size + 1, 3, none⟩ (.int .i64 code)).setCell ⟨w.heap.size + 1 + 1, 0, none⟩ (.slice A ts.length c)).setCell ⟨w.heap.size + 1 + 1, 1, none⟩ (.slice FA fs.length fc)).setCell ⟨w.heap.size + 1 + 1, 2, none⟩ (.int .i64 k)).setCell ⟨w.heap.size + 1 + 1, 3, none⟩ (.int .i64 code)).drew).cell? ⟨w.heap.size + 1, 3, none⟩ = some (.int .i64 code) := by go_simp
          have s0 : (((((((((wr.setCell ⟨w.heap.size + 1, 0, none⟩ (.pointer (some ⟨g, 0, none⟩))).setCell ⟨w.heap.size + 1, 1, none⟩ (.slice FA fs.length fc)).setCell ⟨w.heap.size + 1, 2, none⟩ (.int .i64 k)).setCell ⟨w.heap.size + 1, 3, none⟩ (.int .i64 code)).setCell ⟨w.heap.size + 1 + 1, 0, none⟩ (.slice A ts.length c)).setCell ⟨w.heap.size + 1 + 1, 1, none⟩ (.slice FA fs.length fc)).setCell ⟨w.heap.size + 1 + 1, 2, none⟩ (.int .i64 k)).setCell ⟨w.heap.size + 1 + 1, 3, none⟩ (.int .i64 code)).drew).cell? ⟨w.heap.size + 1 + 1, 0, none⟩ = some (.slice A ts.length c) := by go_simp
          have s1 : (((((((((wr.setCell ⟨w.heap.size + 1, 0, none⟩ (.pointer (some ⟨g, 0, none⟩))).setCell ⟨w.heap.size + 1, 1, none⟩ (.slice FA fs.length fc)).setCell ⟨w.heap.size + 1, 2, none⟩ (.int .i64 k)).setCell ⟨w.heap.size + 1, 3, none⟩ (.int .i64 code)).setCell ⟨w.heap.size + 1 + 1, 0, none⟩ (.slice A ts.length c)).setCell ⟨w.heap.size + 1 + 1, 1, none⟩ (.slice FA fs.length fc)).setCell ⟨w.heap.size + 1 + 1, 2, none⟩ (.int .i64 k)).setCell ⟨w.heap.size + 1 + 1, 3, none⟩ (.int .i64 code)).drew).cell? ⟨w.heap.size + 1 + 1, 1, none⟩ = some (.slice FA fs.length fc) := by go_simp
          have s2 : (((((((((wr.setCell ⟨w.heap.size + 1, 0, none⟩ (.pointer (some ⟨g, 0, none⟩))).setCell ⟨w.heap.size + 1, 1, none⟩ (.slice FA fs.length fc)).setCell ⟨w.heap.size + 1, 2, none⟩ (.int .i64 k)).setCell ⟨w.heap.size + 1, 3, none⟩ (.int .i64 code)).setCell ⟨w.heap.size + 1 + 1, 0, none⟩ (.slice A ts.length c)).setCell ⟨w.heap.size + 1 + 1, 1, none⟩ (.slice FA fs.length fc)).setCell ⟨w.heap.size + 1 + 1, 2, none⟩ (.int .i64 k)).setCell ⟨w.heap.size + 1 + 1, 3, none⟩ (.int .i64 code)).drew).cell? ⟨w.heap.size + 1 + 1, 2, none⟩ = some (.int .i64 k) := by go_simp
          have s3 : (((((((((wr.setCell ⟨w.heap.size + 1, 0, none⟩ (.pointer (some ⟨g, 0, none⟩))).setCell ⟨w.heap.size + 1, 1, none⟩ (.slice FA fs.length fc)).setCell ⟨w.heap.size + 1, 2, none⟩ (.int .i64 k)).setCell ⟨w.heap.size + 1, 3, none⟩ (.int .i64 code)).setCell ⟨w.heap.size + 1 + 1, 0, none⟩ (.slice A ts.length c)).setCell ⟨w.heap.size + 1 + 1, 1, none⟩ (.slice FA fs.length fc)).setCell ⟨w.heap.size + 1 + 1, 2, none⟩ (.int .i64 k)).setCell ⟨w.heap.size + 1 + 1, 3, none⟩ (.int .i64 code)).drew).cell? ⟨w.heap.size + 1 + 1, 3, none⟩ = some (.int .i64 code) := by go_simp
          have HTF0 : TabT wr g (allOf ts) := HTT2.out.below HBT.out
          have HTF := Lib.hid (TabT.set44 HTF0 HRB.out HRC.out (.pointer (some ⟨g, 0, none⟩)) (.slice FA fs.length fc) (.int .i64 k) (.int .i64 code) (.slice A ts.length c) (.slice FA fs.length fc) (.int .i64 k) (.int .i64 code))
          clear HTF0
          have hbe : Below w.heap.size w (((((((((wr.setCell ⟨w.heap.size + 1, 0, none⟩ (.pointer (some ⟨g, 0, none⟩))).setCell ⟨w.heap.size + 1, 1, none⟩ (.slice FA fs.length fc)).setCell ⟨w.heap.size + 1, 2, none⟩ (.int .i64 k)).setCell ⟨w.heap.size + 1, 3, none⟩ (.int .i64 code)).setCell ⟨w.heap.size + 1 + 1, 0, none⟩ (.slice A ts.length c)).setCell ⟨w.heap.size + 1 + 1, 1, none⟩ (.slice FA fs.length fc)).setCell ⟨w.heap.size + 1 + 1, 2, none⟩ (.int .i64 k)).setCell ⟨w.heap.size + 1 + 1, 3, none⟩ (.int .i64 code)).drew) := below_drew' (below_set4 (below_set4 HBW.out (by omega)) (by omega))
          generalize (((((((((wr.setCell ⟨w.heap.size + 1, 0, none⟩ (.pointer (some ⟨g, 0, none⟩))).setCell ⟨w.heap.size + 1, 1, none⟩ (.slice FA fs.length fc)).setCell ⟨w.heap.size + 1, 2, none⟩ (.int .i64 k)).setCell ⟨w.heap.size + 1, 3, none⟩ (.int .i64 code)).setCell ⟨w.heap.size + 1 + 1, 0, none⟩ (.slice A ts.length c)).setCell ⟨w.heap.size + 1 + 1, 1, none⟩ (.slice FA fs.length fc)).setCell ⟨w.heap.size + 1 + 1, 2, none⟩ (.int .i64 k)).setCell ⟨w.heap.size + 1 + 1, 3, none⟩ (.int .i64 code)).drew) = Wf at *
          exact bodyPost_ret (v := .tuple #[.agg #[.pointer (some ⟨g, 0, none⟩), .slice FA fs.length fc, .int .i64 k, .int .i64 code], .agg #[.slice A ts.length c, .slice FA fs.length fc, .int .i64 k, .int .i64 code], .bool b]) (by simp [results, Tryd.results20, go_sem, r0, r1, r2, r3, s0, s1, s2, s3]) rfl ⟨_, _, rfl, hbe, fun _ => ⟨g, rfl, HOK.out, TabT.tab HTF.out⟩⟩
end Go.Proofs.YtdilmfnijkjiaaaDoor.K
