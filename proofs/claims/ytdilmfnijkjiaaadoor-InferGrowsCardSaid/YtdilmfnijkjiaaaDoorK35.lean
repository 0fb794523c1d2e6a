import Derived.Test.YtdilmfnijkjiaaaDoorK26
import Derived.Deep.RegionHeld3
import Derived.Deep.RegionWith
set_option maxRecDepth 100000
set_option linter.unusedSimpArgs false
set_option linter.unusedVariables false
namespace Go.Proofs.YtdilmfnijkjiaaaDoor.K
open Go.RowKit
set_option maxHeartbeats 1000000 in
theorem same_calls (LA : Option Addr) (lc : Nat) (ls : List Int) (SA : Option Addr) (sc : Nat) (st : List Int) (LB : Option Addr) (ld : Nat) (ls' : List Int) (SB : Option Addr) (sd : Nat) (st' : List Int) (w : World) (hL : IntSl w LA lc ls) (hS : IntSl w SA sc st) (hL' : IntSl w LB ld ls') (hS' : IntSl w SB sd st') :
    Calls Tryd.prog 33 #[.agg #[.slice LA ls.length lc, .slice SA st.length sc], .agg #[.slice LB ls'.length ld, .slice SB st'.length sd]] w fun e w' => e = .returned (.bool (decide (ls = ls') && decide (st = st'))) ∧ Below w.heap.size w w' := by
  have hB0 : Below w.heap.size w ((w.alloc (.cells #[.slice LA ls.length lc, .slice SA st.length sc] 30)).alloc (.cells #[.slice LB ls'.length ld, .slice SB st'.length sd] 30)) := below_alloc' (below_alloc' (below_refl w))
  have hb := heap2 w (.cells #[.slice LA ls.length lc, .slice SA st.length sc] 30) (.cells #[.slice LB ls'.length ld, .slice SB st'.length sd] 30)
  go_enter Tryd.func33, Tryd.ntmps33
  have c0 : ((w.alloc (.cells #[.slice LA ls.length lc, .slice SA st.length sc] 30)).alloc (.cells #[.slice LB ls'.length ld, .slice SB st'.length sd] 30)).cell? ⟨w.heap.size, 0, none⟩ = some (.slice LA ls.length lc) := cell_of_row _ _ 0 _ _ _ hb.1
  have c1 : ((w.alloc (.cells #[.slice LA ls.length lc, .slice SA st.length sc] 30)).alloc (.cells #[.slice LB ls'.length ld, .slice SB st'.length sd] 30)).cell? ⟨w.heap.size, 1, none⟩ = some (.slice SA st.length sc) := cell_of_row _ _ 1 _ _ _ hb.1
  have c2 : ((w.alloc (.cells #[.slice LA ls.length lc, .slice SA st.length sc] 30)).alloc (.cells #[.slice LB ls'.length ld, .slice SB st'.length sd] 30)).cell? ⟨w.heap.size + 1, 0, none⟩ = some (.slice LB ls'.length ld) := cell_of_row _ _ 0 _ _ _ hb.2
  have c3 : ((w.alloc (.cells #[.slice LA ls.length lc, .slice SA st.length sc] 30)).alloc (.cells #[.slice LB ls'.length ld, .slice SB st'.length sd] 30)).cell? ⟨w.heap.size + 1, 1, none⟩ = some (.slice SB st'.length sd) := cell_of_row _ _ 1 _ _ _ hb.2
  have H1 := Lib.hid (equal_calls LA lc ls LB ld ls' _ (hL.below hB0) (hL'.below hB0))
  have HS := Lib.hid (hS.below hB0)
  have HS' := Lib.hid (hS'.below hB0)
  have HB0 := Lib.hid hB0
  clear hB0 hL hS hL' hS' hb
  go_wp2_with fail
  generalize ((w.alloc (.cells #[.slice LA ls.length lc, .slice SA st.length sc] 30)).alloc (.cells #[.slice LB ls'.length ld, .slice SB st'.length sd] 30)) = W at *
  refine H1.out.mono ?_
  rintro e w2 ⟨rfl, m, rfl⟩
  have d1 : (W.drewN m).cell? ⟨w.heap.size, 1, none⟩ = some (.slice SA st.length sc) := c1
  have d3 : (W.drewN m).cell? ⟨w.heap.size + 1, 1, none⟩ = some (.slice SB st'.length sd) := c3
  have hbm : Below W.heap.size W (W.drewN m) := below_drewN' (below_refl W)
  have H2 := Lib.hid (equal_calls SA sc st SB sd st' (W.drewN m) (HS.out.below hbm) (HS'.out.below hbm))
  have HB2 := Lib.hid (below_then HB0.out hbm)
  clear c0 c1 c2 c3 H1 HS HS' hbm HB0
  generalize W.drewN m = W2 at *
  by_cases he : ls = ls'
  · rw [decide_eq_true he]
    have HE := Lib.hid he
    clear he
    go_wp2_with fail
    refine H2.out.mono ?_
    rintro e w2 ⟨rfl, m, rfl⟩
    have HB3 := Lib.hid (below_then HB2.out (below_drewN' (n := m) (below_refl W2)))
    clear HB2 H2
    go_wp2
    go_ret
    exact ⟨by simp [HE.out], HB3.out⟩
  · rw [decide_eq_false he]
    have HE := Lib.hid he
    clear he
    go_wp2
    go_ret
    exact ⟨by simp [HE.out], HB2.out⟩
end Go.Proofs.YtdilmfnijkjiaaaDoor.K
