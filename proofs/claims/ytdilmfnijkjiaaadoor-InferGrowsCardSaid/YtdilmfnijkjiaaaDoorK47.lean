import Derived.Test.YtdilmfnijkjiaaaDoorK42
import Derived.Test.YtdilmfnijkjiaaaDoorK45
import Derived.Test.YtdilmfnijkjiaaaDoorK46
import Derived.Deep.RegionHeld3
import Derived.Deep.RegionWith
set_option maxRecDepth 100000
set_option linter.unusedSimpArgs false
set_option linter.unusedVariables false
namespace Go.Proofs.YtdilmfnijkjiaaaDoor.K
open Go.RowKit
/-- Step, its answer as slices. -/
def StepSl (w : World) (r : List Int × List Int × Int) (e : Ending) (w' : World) : Prop :=
  ∃ A1 k1 A2 k2, e = .returned (.tuple #[.agg #[.slice A1 r.1.length k1, .slice A2 r.2.1.length k2], .int .i64 r.2.2]) ∧ IntSl w' A1 k1 r.1 ∧ IntSl w' A2 k2 r.2.1 ∧ Below w.heap.size w w'
theorem step_full (op a b : Int) (g : Nat) (A : Option Addr) (c : Nat) (lo cd : Int) (TS : List Ty) (fs : List Fn) (res : Int) (LA : Option Addr) (lc : Nat) (ls : List Int) (SA : Option Addr) (sc : Nat) (st : List Int) (w : World) (hT : Tab w g TS) (hF : FnSl w A c fs) (hpl : (partsOf TS a).length * 8 ≤ 140737488355328)
    (hsz : st.length * 8 ≤ 140737488351232) (hll : ls.length * 8 ≤ 140737488351232) (hL : IntSl w LA lc ls) (hS : IntSl w SA sc st) :
    Calls Tryd.prog 22 #[.agg #[.int .i64 op, .int .i64 a, .int .i64 b], .agg #[.pointer (some ⟨g, 0, none⟩), .slice A fs.length c, .int .i64 lo, .int .i64 cd], .int .i64 res, .agg #[.slice LA ls.length lc, .slice SA st.length sc]] w (StepSl w (stepM TS fs lo cd op a b res ls st)) := by
  refine (step_calls op a b g A c lo cd TS fs res LA lc ls SA sc st w hT hF hpl (by omega) (by omega) hL hS).mono ?_
  rintro e w2 ⟨V1, V2, rfl, ho, hb2⟩
  obtain ⟨A1, k1, rfl, hs1⟩ := ho.l.sl
  obtain ⟨A2, k2, rfl, hs2⟩ := ho.s.sl
  exact ⟨A1, k1, A2, k2, rfl, hs1, hs2, hb2⟩
theorem cells3 {w : World} {b : Nat} {u v x : Value} {t : TypeId} (h : w.heap[b]? = some (.cells #[u, v, x] t (0, 0))) : w.cell? ⟨b, 0, none⟩ = some u ∧ w.cell? ⟨b, 1, none⟩ = some v ∧ w.cell? ⟨b, 2, none⟩ = some x :=
  ⟨cell_of_row _ _ 0 _ _ _ h, cell_of_row _ _ 1 _ _ _ h, cell_of_row _ _ 2 _ _ _ h⟩
set_option maxHeartbeats 8000000 in
theorem grows_calls (A : Option Addr) (c : Nat) (ts : List Ty) (FA : Option Addr) (fc : Nat) (fs : List Fn) (code res op a b : Int) (LA : Option Addr) (lc : Nat) (ls : List Int) (SA : Option Addr) (sc : Nat) (st : List Int) (LB : Option Addr) (ld : Nat) (ls' : List Int) (SB : Option Addr) (sd : Nat) (st' : List Int) (w : World)
    (hT : TySl w A c ts) (hm : ts.length * 40 ≤ 140737488351232) (hp : ∀ t ∈ ts, t.parts.length * 8 ≤ 140737488351232) (ho : ∀ t ∈ ts, t.of ≤ 9223372036854775807) (hF : FnSl w FA fc fs) (hfm : fs.length * 8 ≤ 140737488351232) (hres : res ≤ 9223372036854775807) (hfr : ∀ f ∈ fs, f.result ≤ 9223372036854775807 ∧ ∀ p ∈ f.params, p ≤ 9223372036854775807)
    (hL : IntSl w LA lc ls) (hS : IntSl w SA sc st) (hl1 : ls.length * 8 ≤ 140737488351232) (hl2 : st.length * 8 ≤ 140737488351232) (hL' : IntSl w LB ld ls') (hS' : IntSl w SB sd st') (hl3 : ls'.length * 8 ≤ 140737488351232) (hl4 : st'.length * 8 ≤ 140737488351232) :
    Calls Tryd.prog 8 #[.agg #[.slice A ts.length c, .slice FA fs.length fc, .int .i64 code, .int .i64 res], .agg #[.int .i64 op, .int .i64 a, .int .i64 b], .agg #[.slice LA ls.length lc, .slice SA st.length sc], .agg #[.slice LB ls'.length ld, .slice SB st'.length sd]] w fun e w' => e = .returned (.bool true) ∧ Below w.heap.size w w' := by
  have hB0 : Below w.heap.size w ((((w.alloc (.cells #[.slice A ts.length c, .slice FA fs.length fc, .int .i64 code, .int .i64 res] 25)).alloc (.cells #[.int .i64 op, .int .i64 a, .int .i64 b] 27)).alloc (.cells #[.slice LA ls.length lc, .slice SA st.length sc] 30)).alloc (.cells #[.slice LB ls'.length ld, .slice SB st'.length sd] 30)) := below_alloc' (below_alloc' (below_alloc' (below_alloc' (below_refl w))))
  have h4 := heap4 w (.cells #[.slice A ts.length c, .slice FA fs.length fc, .int .i64 code, .int .i64 res] 25) (.cells #[.int .i64 op, .int .i64 a, .int .i64 b] 27) (.cells #[.slice LA ls.length lc, .slice SA st.length sc] 30) (.cells #[.slice LB ls'.length ld, .slice SB st'.length sd] 30)
  have HT := Lib.hid (hT.below hB0)
  have HF := Lib.hid (hF.below hB0)
  have SLa := Lib.hid (hL.below hB0)
  have SSa := Lib.hid (hS.below hB0)
  have SLb := Lib.hid (hL'.below hB0)
  have SSb := Lib.hid (hS'.below hB0)
  have R25 := Lib.hid h4.1
  have R27 := Lib.hid h4.2.1
  have R30 := Lib.hid h4.2.2.1
  have R31 := Lib.hid h4.2.2.2
  have HB := Lib.hid hB0
  have HSC := Lib.hid (fun k W (h : TySl W A c ts) (h2 : FnSl W FA fc fs) => scopes_calls A c ts FA fc fs code res k W h hm hp ho h2 hfm hres hfr)
  have HPL := Lib.hid (parts_le hp)
  clear hT hm hp ho hF hfm hres hfr hL hS hL' hS' hB0 h4
  go_enter Tryd.func8, Tryd.ntmps8
  go_wp2_with fail
  generalize hw0 : ((((w.alloc (.cells #[.slice A ts.length c, .slice FA fs.length fc, .int .i64 code, .int .i64 res] 25)).alloc (.cells #[.int .i64 op, .int .i64 a, .int .i64 b] 27)).alloc (.cells #[.slice LA ls.length lc, .slice SA st.length sc] 30)).alloc (.cells #[.slice LB ls'.length ld, .slice SB st'.length sd] 30)) = W0 at *
  clear hw0
  refine (shown_calls W0).mono ?_
  rintro e w0 ⟨rfl, hb⟩
  have HT_1 := Lib.hid (HT.out.below hb)
  have HF_2 := Lib.hid (HF.out.below hb)
  have SLa_3 := Lib.hid (SLa.out.below hb)
  have SSa_4 := Lib.hid (SSa.out.below hb)
  have SLb_5 := Lib.hid (SLb.out.below hb)
  have SSb_6 := Lib.hid (SSb.out.below hb)
  have R25_7 := Lib.hid (row_below hb R25.out)
  have R27_8 := Lib.hid (row_below hb R27.out)
  have R30_9 := Lib.hid (row_below hb R30.out)
  have R31_10 := Lib.hid (row_below hb R31.out)
  have HB_11 := Lib.hid (below_then HB.out hb)
  clear HT HF SLa SSa SLb SSb R25 R27 R30 R31 HB
  clear hb
  obtain ⟨c0, c1, c2, c3⟩ := cells4 R25_7.out
  obtain ⟨c4, c5⟩ := cells2 R30_9.out
  go_wp2_with fail
  clear c0 c1 c2 c3 c4 c5
  refine (HSC.out (ls.length : Int) w0 HT_1.out HF_2.out).mono ?_
  rintro e w1 ⟨tv, ok, rfl, hb, hok⟩
  have HT_12 := Lib.hid (HT_1.out.below hb)
  have HF_13 := Lib.hid (HF_2.out.below hb)
  have SLa_14 := Lib.hid (SLa_3.out.below hb)
  have SSa_15 := Lib.hid (SSa_4.out.below hb)
  have SLb_16 := Lib.hid (SLb_5.out.below hb)
  have SSb_17 := Lib.hid (SSb_6.out.below hb)
  have R25_18 := Lib.hid (row_below hb R25_7.out)
  have R27_19 := Lib.hid (row_below hb R27_8.out)
  have R30_20 := Lib.hid (row_below hb R30_9.out)
  have R31_21 := Lib.hid (row_below hb R31_10.out)
  have HB_22 := Lib.hid (below_then HB_11.out hb)
  clear HT_1 HF_2 SLa_3 SSa_4 SLb_5 SSb_6 R25_7 R27_8 R30_9 R31_10 HB_11
  cases ok with
  | false =>
    clear hok hb
    go_wp2_with fail
    go_ret
    exact ⟨rfl, below_alloc' (below_alloc' HB_22.out)⟩
  | true =>
    obtain ⟨g, rfl, hok1, hTB⟩ := hok rfl
    have HTB := Lib.hid hTB
    have HOK := Lib.hid hok1
    clear hok hok1 hTB hb
    have hbx : Below w1.heap.size w1 ((w1.alloc (.cells #[.pointer (some ⟨g, 0, none⟩), .slice FA fs.length fc, .int .i64 ls.length, .int .i64 code] 34)).alloc (.cells #[.slice A ts.length c, .slice FA fs.length fc, .int .i64 ls.length, .int .i64 code] 36)) := below_alloc' (below_alloc' (below_refl w1))
    have HT_23 := Lib.hid (HT_12.out.below hbx)
    have HF_24 := Lib.hid (HF_13.out.below hbx)
    have SLa_25 := Lib.hid (SLa_14.out.below hbx)
    have SSa_26 := Lib.hid (SSa_15.out.below hbx)
    have SLb_27 := Lib.hid (SLb_16.out.below hbx)
    have SSb_28 := Lib.hid (SSb_17.out.below hbx)
    have R25_29 := Lib.hid (row_below hbx R25_18.out)
    have R27_30 := Lib.hid (row_below hbx R27_19.out)
    have R30_31 := Lib.hid (row_below hbx R30_20.out)
    have R31_32 := Lib.hid (row_below hbx R31_21.out)
    have HB_33 := Lib.hid (below_then HB_22.out hbx)
    have HTB_34 := Lib.hid (HTB.out.below hbx)
    clear HT_12 HF_13 SLa_14 SSa_15 SLb_16 SSb_17 R25_18 R27_19 R30_20 R31_21 HB_22 HTB
    have R34 := Lib.hid (heap2 w1 (.cells #[.pointer (some ⟨g, 0, none⟩), .slice FA fs.length fc, .int .i64 ls.length, .int .i64 code] 34) (.cells #[.slice A ts.length c, .slice FA fs.length fc, .int .i64 ls.length, .int .i64 code] 36)).1
    clear hbx
    obtain ⟨c0, c1⟩ := cells2 R30_31.out
    obtain ⟨c2, c3⟩ := cells2 R31_32.out
    go_wp2_with fail
    clear c0 c1 c2 c3
    generalize ((w1.alloc (.cells #[.pointer (some ⟨g, 0, none⟩), .slice FA fs.length fc, .int .i64 ls.length, .int .i64 code] 34)).alloc (.cells #[.slice A ts.length c, .slice FA fs.length fc, .int .i64 ls.length, .int .i64 code] 36)) = W1 at *
    by_cases hlen : ls.length = ls'.length ∧ st.length = st'.length
    rotate_left
    · have hno := join_no LA lc ls SA sc st LB ld ls' SB sd st' W1 (by omega) (by omega) (by omega) (by omega) hlen
      clear hlen
      refine hno.mono ?_
      rintro e w2 ⟨A1, k1, A2, k2, rfl, _, _, hb⟩
      have HBX := Lib.hid (below_then HB_33.out hb)
      clear hb hno
      go_wp2_with fail
      go_ret
      exact ⟨rfl, below_alloc' HBX.out⟩
    have hyes := join_yes LA lc ls SA sc st LB ld ls' SB sd st' W1 SLa_25.out SSa_26.out SLb_27.out SSb_28.out hlen.1 hlen.2 (by omega) (by omega)
    have HLE1 := Lib.hid (bothL_le hlen.1)
    have HLE2 := Lib.hid (bothL_le hlen.2)
    clear hlen
    refine hyes.mono ?_
    rintro e w2 ⟨A1, k1, A2, k2, rfl, hs1, hs2, hb⟩
    have hbx := below_alloc' (o := .cells #[.slice A1 (bothL ls ls').length k1, .slice A2 (bothL st st').length k2] 30) (below_refl w2)
    have hbb := below_then hb hbx
    have HT_35 := Lib.hid (HT_23.out.below hbb)
    have HF_36 := Lib.hid (HF_24.out.below hbb)
    have SLa_37 := Lib.hid (SLa_25.out.below hbb)
    have SSa_38 := Lib.hid (SSa_26.out.below hbb)
    have SLb_39 := Lib.hid (SLb_27.out.below hbb)
    have SSb_40 := Lib.hid (SSb_28.out.below hbb)
    have R25_41 := Lib.hid (row_below hbb R25_29.out)
    have R27_42 := Lib.hid (row_below hbb R27_30.out)
    have R30_43 := Lib.hid (row_below hbb R30_31.out)
    have R31_44 := Lib.hid (row_below hbb R31_32.out)
    have HB_45 := Lib.hid (below_then HB_33.out hbb)
    have HTB_46 := Lib.hid (HTB_34.out.below hbb)
    have R34_47 := Lib.hid (row_below hbb R34.out)
    clear HT_23 HF_24 SLa_25 SSa_26 SLb_27 SSb_28 R25_29 R27_30 R30_31 R31_32 HB_33 HTB_34 R34
    have RJ := Lib.hid (heap_alloc_new w2 (.cells #[.slice A1 (bothL ls ls').length k1, .slice A2 (bothL st st').length k2] 30))
    have SJ1 := Lib.hid (hs1.below hbx)
    have SJ2 := Lib.hid (hs2.below hbx)
    clear hs1 hs2 hb hbb hbx hyes
    obtain ⟨c0, c1, c2, c3⟩ := cells4 R25_41.out
    obtain ⟨c4, c5, c6⟩ := cells3 R27_42.out
    obtain ⟨c7, c8, c9, c10⟩ := cells4 R34_47.out
    obtain ⟨c11, c12⟩ := cells2 R30_43.out
    go_wp2_with fail
    clear c0 c1 c2 c3 c4 c5 c6 c7 c8 c9 c10 c11 c12
    generalize w2.alloc (.cells #[.slice A1 (bothL ls ls').length k1, .slice A2 (bothL st st').length k2] 30) = W2 at *
    have HMO := Lib.hid (step_mono (allOf ts) fs (ls.length : Int) code op a b res HLE1.out HLE2.out)
    have HJ1 := Lib.hid (HLE1.out.1)
    have HJ2 := Lib.hid (HLE2.out.1)
    refine (step_full op a b g FA fc (ls.length : Int) code (allOf ts) fs res LA lc ls SA sc st W2 HTB_46.out HF_36.out (HPL.out a) (by omega) (by omega) SLa_37.out SSa_38.out).mono ?_
    rintro e w5 ⟨A5a, k5a, A5b, k5b, rfl, hs1, hs2, hb⟩
    generalize stepM (allOf ts) fs (ls.length : Int) code op a b res ls st = r5 at *
    have hbx := below_alloc' (o := .cells #[.slice A5a r5.1.length k5a, .slice A5b r5.2.1.length k5b] 30) (below_refl w5)
    have hbb := below_then hb hbx
    have HT_48 := Lib.hid (HT_35.out.below hbb)
    have HF_49 := Lib.hid (HF_36.out.below hbb)
    have SLa_50 := Lib.hid (SLa_37.out.below hbb)
    have SSa_51 := Lib.hid (SSa_38.out.below hbb)
    have SLb_52 := Lib.hid (SLb_39.out.below hbb)
    have SSb_53 := Lib.hid (SSb_40.out.below hbb)
    have R25_54 := Lib.hid (row_below hbb R25_41.out)
    have R27_55 := Lib.hid (row_below hbb R27_42.out)
    have R30_56 := Lib.hid (row_below hbb R30_43.out)
    have R31_57 := Lib.hid (row_below hbb R31_44.out)
    have HB_58 := Lib.hid (below_then HB_45.out hbb)
    have HTB_59 := Lib.hid (HTB_46.out.below hbb)
    have R34_60 := Lib.hid (row_below hbb R34_47.out)
    have RJ_61 := Lib.hid (row_below hbb RJ.out)
    have SJ1_62 := Lib.hid (SJ1.out.below hbb)
    have SJ2_63 := Lib.hid (SJ2.out.below hbb)
    clear HT_35 HF_36 SLa_37 SSa_38 SLb_39 SSb_40 R25_41 R27_42 R30_43 R31_44 HB_45 HTB_46 R34_47 RJ SJ1 SJ2
    have RF := Lib.hid (heap_alloc_new w5 (.cells #[.slice A5a r5.1.length k5a, .slice A5b r5.2.1.length k5b] 30))
    have S5a := Lib.hid (hs1.below hbx)
    have S5b := Lib.hid (hs2.below hbx)
    clear hs1 hs2 hb hbb hbx
    obtain ⟨c0, c1, c2, c3⟩ := cells4 R25_54.out
    obtain ⟨c4, c5, c6⟩ := cells3 R27_55.out
    obtain ⟨c7, c8, c9, c10⟩ := cells4 R34_60.out
    obtain ⟨c11, c12⟩ := cells2 RJ_61.out
    go_wp2_with fail
    clear c0 c1 c2 c3 c4 c5 c6 c7 c8 c9 c10 c11 c12
    generalize w5.alloc (.cells #[.slice A5a r5.1.length k5a, .slice A5b r5.2.1.length k5b] 30) = W3 at *
    refine (step_full op a b g FA fc (ls.length : Int) code (allOf ts) fs res A1 k1 (bothL ls ls') A2 k2 (bothL st st') W3 HTB_59.out HF_49.out (HPL.out a) (by have := HJ2.out; omega) (by have := HJ1.out; omega) SJ1_62.out SJ2_63.out).mono ?_
    rintro e w6 ⟨A6a, k6a, A6b, k6b, rfl, hs1, hs2, hb⟩
    generalize stepM (allOf ts) fs (ls.length : Int) code op a b res (bothL ls ls') (bothL st st') = r6 at *
    have hbx := below_alloc' (o := .cells #[.slice A6a r6.1.length k6a, .slice A6b r6.2.1.length k6b] 30) (below_refl w6)
    have hbb := below_then hb hbx
    have HT_64 := Lib.hid (HT_48.out.below hbb)
    have HF_65 := Lib.hid (HF_49.out.below hbb)
    have SLa_66 := Lib.hid (SLa_50.out.below hbb)
    have SSa_67 := Lib.hid (SSa_51.out.below hbb)
    have SLb_68 := Lib.hid (SLb_52.out.below hbb)
    have SSb_69 := Lib.hid (SSb_53.out.below hbb)
    have R25_70 := Lib.hid (row_below hbb R25_54.out)
    have R27_71 := Lib.hid (row_below hbb R27_55.out)
    have R30_72 := Lib.hid (row_below hbb R30_56.out)
    have R31_73 := Lib.hid (row_below hbb R31_57.out)
    have HB_74 := Lib.hid (below_then HB_58.out hbb)
    have HTB_75 := Lib.hid (HTB_59.out.below hbb)
    have R34_76 := Lib.hid (row_below hbb R34_60.out)
    have RJ_77 := Lib.hid (row_below hbb RJ_61.out)
    have SJ1_78 := Lib.hid (SJ1_62.out.below hbb)
    have SJ2_79 := Lib.hid (SJ2_63.out.below hbb)
    have RF_80 := Lib.hid (row_below hbb RF.out)
    have S5a_81 := Lib.hid (S5a.out.below hbb)
    have S5b_82 := Lib.hid (S5b.out.below hbb)
    clear HT_48 HF_49 SLa_50 SSa_51 SLb_52 SSb_53 R25_54 R27_55 R30_56 R31_57 HB_58 HTB_59 R34_60 RJ_61 SJ1_62 SJ2_63 RF S5a S5b
    have RG := Lib.hid (heap_alloc_new w6 (.cells #[.slice A6a r6.1.length k6a, .slice A6b r6.2.1.length k6b] 30))
    have S6a := Lib.hid (hs1.below hbx)
    have S6b := Lib.hid (hs2.below hbx)
    clear hs1 hs2 hb hbb hbx
    have HLF := Lib.hid (less_calls A5a k5a r5.1 A5b k5b r5.2.1 A6a k6a r6.1 A6b k6b r6.2.1 (w6.alloc (.cells #[.slice A6a r6.1.length k6a, .slice A6b r6.2.1.length k6b] 30)) S5a_81.out S5b_82.out S6a.out S6b.out HMO.out.1 HMO.out.2.1)
    have hm3 := HMO.out.2.2
    obtain ⟨c0, c1⟩ := cells2 RF_80.out
    obtain ⟨c2, c3⟩ := cells2 RG.out
    obtain ⟨l5, s5, v5⟩ := r5
    obtain ⟨l6, s6, v6⟩ := r6
    simp only at hm3 c0 c1 c2 c3
    clear HMO
    by_cases hv : v6 = 0
    · have hv5 : v5 = 0 := hm3 hv
      subst hv hv5
      clear hm3
      go_wp2_with fail
      refine HLF.out.mono ?_
      rintro e w9 ⟨rfl, hb9⟩
      have HBZ := Lib.hid (below_then HB_74.out hb9)
      clear hb9 HLF c0 c1 c2 c3
      go_wp2
      go_ret
      exact ⟨rfl, HBZ.out⟩
    · clear hm3
      have hv' : (v6 == 0) = false := beq_eq_false_iff_ne.2 hv
      go_wp2_with fail
      refine HLF.out.mono ?_
      rintro e w9 ⟨rfl, hb9⟩
      have HBZ := Lib.hid (below_then HB_74.out hb9)
      clear hb9 HLF c0 c1 c2 c3
      go_wp2
      go_ret
      exact ⟨rfl, HBZ.out⟩
end Go.Proofs.YtdilmfnijkjiaaaDoor.K
