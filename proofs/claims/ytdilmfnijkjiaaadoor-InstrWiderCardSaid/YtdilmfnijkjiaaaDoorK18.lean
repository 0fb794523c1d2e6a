import Derived.Test.YtdilmfnijkjiaaaDoorK17
import Derived.StillTailTactics
import Derived.Deep.RegionHeld3
import Derived.Deep.RegionWith
set_option maxRecDepth 100000
set_option linter.unusedSimpArgs false
set_option linter.unusedVariables false
namespace Go.Proofs.YtdilmfnijkjiaaaDoor.K
open Go.RowKit
def failErr (e err : Int) : Int := if err = 0 then e else err
set_option maxHeartbeats 1000000 in
theorem plain_6 (base s : Nat) (a b : Int) (g : Nat) (FA : Option Addr) (nf fc : Nat) (lo cd res : Int) (LV : Value) (w : World) (ls st : List Int) (h : SInv base s ⟨6, a, b, g, FA, nf, fc, lo, cd, res, LV⟩ w ls st 0) (hs : base ≤ s) (hb : st.length ≤ 17592186044300) (hl : 1 ≤ st.length) (x : Int) (hx : st.drop (st.length - 1) = [x]) :
    Calls Tryd.prog 64 #[.pointer (some ⟨s, 0, none⟩)] w (PlainPost base s ⟨6, a, b, g, FA, nf, fc, lo, cd, res, LV⟩ w ls (st.take (st.length - 1) ++ [x, x]) (takeErr 0 [-2] [x])) := by
  obtain ⟨SV, h1, _⟩ := h.ex
  have c0 : w.cell? ⟨s, 0, none⟩ = some (.int .i64 6) := cell_of_row w s 0 _ _ _ h1
  have HT := Lib.hid (take_lit' base s _ [-2] 1 rfl #[.int .i64 (-2)] rfl w ls st 0 h (by omega) (by omega) hs)
  clear h1 h
  rw [hx] at HT
  clear hx
  go_enter Tryd.func64, Tryd.ntmps64
  go_wp2_with fail
  refine HT.out.mono ?_
  rintro e w1 ⟨A1, c1, rfl, ho, hd⟩
  have HD := Lib.hid hd
  obtain ⟨ad, rfl, hcell⟩ := ho.getI 0 (Int.le_refl _) (by simp)
  have hc0 : w1.cell? ad = some (.int .i64 x) := hcell
  clear ho hd hcell
  go_wp2_with fail
  refine (put_lit base s _ [x, x] 2 rfl _ rfl w1 ls _ _ HD.out.inv (by simp; omega) hs).mono ?_
  rintro e w2 ⟨rfl, hd⟩
  have HD2 := Lib.hid (HD.out.trans hd)
  clear hd
  go_wp2
  exact bodyPost_end (results_none rfl _ _ _) rfl ⟨rfl, HD2.out⟩
set_option maxHeartbeats 1000000 in
theorem plain_7 (base s : Nat) (a b : Int) (g : Nat) (FA : Option Addr) (nf fc : Nat) (lo cd res : Int) (LV : Value) (w : World) (ls st : List Int) (h : SInv base s ⟨7, a, b, g, FA, nf, fc, lo, cd, res, LV⟩ w ls st 0) (hs : base ≤ s) (hb : st.length ≤ 17592186044300) (hl : 2 ≤ st.length) (x y : Int) (hx : st.drop (st.length - 2) = [x, y]) :
    Calls Tryd.prog 64 #[.pointer (some ⟨s, 0, none⟩)] w (PlainPost base s ⟨7, a, b, g, FA, nf, fc, lo, cd, res, LV⟩ w ls (st.take (st.length - 2) ++ [y, x]) (takeErr 0 [-1, -1] [x, y])) := by
  obtain ⟨SV, h1, _⟩ := h.ex
  have c0 : w.cell? ⟨s, 0, none⟩ = some (.int .i64 7) := cell_of_row w s 0 _ _ _ h1
  have HT := Lib.hid (take_lit' base s _ [-1, -1] 2 rfl #[.int .i64 (-1), .int .i64 (-1)] rfl w ls st 0 h (by omega) (by omega) hs)
  clear h1 h
  rw [hx] at HT
  clear hx
  go_enter Tryd.func64, Tryd.ntmps64
  go_wp2_with fail
  refine HT.out.mono ?_
  rintro e w1 ⟨A1, c1, rfl, ho, hd⟩
  have HD := Lib.hid hd
  obtain ⟨ad, rfl, hcell⟩ := ho.getI 0 (Int.le_refl _) (by simp)
  obtain ⟨ad', e', hcell'⟩ := ho.getI 1 (by omega) (by simp)
  obtain rfl := Option.some.inj e'
  have hc0 : w1.cell? ad = some (.int .i64 x) := hcell
  have hc1 : w1.cell? ⟨ad.block, ad.off + 1, none⟩ = some (.int .i64 y) := hcell'
  clear ho hd hcell hcell' e'
  go_wp2
  have HP := Lib.hid (put_lit base s _ [y, x] 2 rfl #[.int .i64 y, .int .i64 x] rfl w1.drew ls _ _ (HD.out.inv.below (below_drew' (below_refl _))) (by simp; omega) hs)
  go_region_with (first | (go_at_call 99; refine HP.out.mono ?_; rintro e w2 ⟨rfl, hd⟩; have HD2 := Lib.hid ((⟨HD.out.inv.below (below_drew' (below_refl _)), HD.out.bel.drew⟩ : Did base s _ w ls _ _ w1.drew).trans hd); clear hd))
  all_goals
    go_wp2
    exact bodyPost_end (results_none rfl _ _ _) rfl ⟨rfl, HD2.out⟩
set_option maxHeartbeats 1000000 in
theorem plain_14e (base s : Nat) (a b : Int) (g : Nat) (FA : Option Addr) (nf fc : Nat) (lo cd res : Int) (LV : Value) (w : World) (ls st : List Int) (h : SInv base s ⟨14, a, b, g, FA, nf, fc, lo, cd, res, LV⟩ w ls st 0) (hs : base ≤ s) (hb : st.length ≤ 17592186044300) (hl : 2 ≤ st.length) (x y : Int) (hx : st.drop (st.length - 2) = [x, y]) (hxy : x = y) :
    Calls Tryd.prog 64 #[.pointer (some ⟨s, 0, none⟩)] w (PlainPost base s ⟨14, a, b, g, FA, nf, fc, lo, cd, res, LV⟩ w ls (st.take (st.length - 2) ++ [1]) (takeErr 0 [-2, -2] [x, y])) := by
  obtain ⟨SV, h1, _⟩ := h.ex
  have c0 : w.cell? ⟨s, 0, none⟩ = some (.int .i64 14) := cell_of_row w s 0 _ _ _ h1
  have HT := Lib.hid (take_lit' base s _ [-2, -2] 2 rfl #[.int .i64 (-2), .int .i64 (-2)] rfl w ls st 0 h (by omega) (by omega) hs)
  clear h1 h
  rw [hx] at HT
  clear hx
  have hxy' : (x != y) = false := by simp [hxy]
  clear hxy
  go_enter Tryd.func64, Tryd.ntmps64
  go_wp2_with fail
  refine HT.out.mono ?_
  rintro e w1 ⟨A1, c1, rfl, ho, hd⟩
  have HD := Lib.hid hd
  obtain ⟨ad, rfl, hcell⟩ := ho.getI 0 (Int.le_refl _) (by simp)
  obtain ⟨ad', e', hcell'⟩ := ho.getI 1 (by omega) (by simp)
  obtain rfl := Option.some.inj e'
  have hc0 : w1.cell? ad = some (.int .i64 x) := hcell
  have hc1 : w1.cell? ⟨ad.block, ad.off + 1, none⟩ = some (.int .i64 y) := hcell'
  clear ho hd hcell hcell' e'
  go_wp2
  go_quiet (fail)
  have HQ := fun (n : Nat) => (⟨HD.out.inv.below (below_drewN' (n := n) (below_refl _)), HD.out.bel.trans (below_mono (below_drewN' (below_refl _)) (by have := HD.out.bel.size; have := HD.out.inv.lt; omega))⟩ : Did base s _ w ls _ _ (w1.drewN n))
  have HD3 := Lib.hid (HQ nq)
  clear HQ
  go_wp2_with fail
  refine (put_lit base s _ [1] 1 rfl _ rfl (w1.drewN nq) ls _ _ HD3.out.inv (by simp; omega) hs).mono ?_
  rintro e w2 ⟨rfl, hd⟩
  have HD2 := Lib.hid (HD3.out.trans hd)
  clear hd
  go_wp2
  exact bodyPost_end (results_none rfl _ _ _) rfl ⟨rfl, HD2.out⟩
set_option maxHeartbeats 1000000 in
theorem plain_14n (base s : Nat) (a b : Int) (g : Nat) (FA : Option Addr) (nf fc : Nat) (lo cd res : Int) (LV : Value) (w : World) (ls st : List Int) (h : SInv base s ⟨14, a, b, g, FA, nf, fc, lo, cd, res, LV⟩ w ls st 0) (hs : base ≤ s) (hb : st.length ≤ 17592186044300) (hl : 2 ≤ st.length) (x y : Int) (hx : st.drop (st.length - 2) = [x, y]) (hxy : x ≠ y) :
    Calls Tryd.prog 64 #[.pointer (some ⟨s, 0, none⟩)] w (PlainPost base s ⟨14, a, b, g, FA, nf, fc, lo, cd, res, LV⟩ w ls (st.take (st.length - 2) ++ [1]) (failErr 16 (takeErr 0 [-2, -2] [x, y]))) := by
  obtain ⟨SV, h1, _⟩ := h.ex
  have c0 : w.cell? ⟨s, 0, none⟩ = some (.int .i64 14) := cell_of_row w s 0 _ _ _ h1
  have HT := Lib.hid (take_lit' base s _ [-2, -2] 2 rfl #[.int .i64 (-2), .int .i64 (-2)] rfl w ls st 0 h (by omega) (by omega) hs)
  clear h1 h
  rw [hx] at HT
  clear hx
  have hxy' : (x != y) = true := by simp [hxy]
  clear hxy
  go_enter Tryd.func64, Tryd.ntmps64
  go_wp2_with fail
  refine HT.out.mono ?_
  rintro e w1 ⟨A1, c1, rfl, ho, hd⟩
  have HD := Lib.hid hd
  obtain ⟨ad, rfl, hcell⟩ := ho.getI 0 (Int.le_refl _) (by simp)
  obtain ⟨ad', e', hcell'⟩ := ho.getI 1 (by omega) (by simp)
  obtain rfl := Option.some.inj e'
  have hc0 : w1.cell? ad = some (.int .i64 x) := hcell
  have hc1 : w1.cell? ⟨ad.block, ad.off + 1, none⟩ = some (.int .i64 y) := hcell'
  clear ho hd hcell hcell' e'
  go_wp2
  go_quiet (fail)
  have HQ := fun (n : Nat) => (⟨HD.out.inv.below (below_drewN' (n := n) (below_refl _)), HD.out.bel.trans (below_mono (below_drewN' (below_refl _)) (by have := HD.out.bel.size; have := HD.out.inv.lt; omega))⟩ : Did base s _ w ls _ _ (w1.drewN n))
  have HD3 := Lib.hid (HQ nq)
  clear HQ
  go_wp2_with fail
  refine (fail_calls base s _ 16 _ _ _ _ HD3.out.inv).mono ?_
  rintro e w3 ⟨rfl, hi, hbut⟩
  have HD4 : Hid (Did base s _ w ls (st.take (st.length - 2)) (failErr 16 (takeErr 0 [-2, -2] [x, y])) w3) := Lib.hid ⟨hi, HD3.out.bel.trans (below_base hbut hs (by have := HD3.out.inv.lt; omega))⟩
  clear hi hbut
  go_wp2_with fail
  refine (put_lit base s _ [1] 1 rfl _ rfl w3 ls _ _ HD4.out.inv (by simp; omega) hs).mono ?_
  rintro e w2 ⟨rfl, hd⟩
  have HD2 := Lib.hid (HD4.out.trans hd)
  clear hd
  go_wp2
  exact bodyPost_end (results_none rfl _ _ _) rfl ⟨rfl, HD2.out⟩
set_option maxHeartbeats 1000000 in
theorem plain_21 (base s : Nat) (a b : Int) (g : Nat) (FA : Option Addr) (nf fc : Nat) (lo cd res : Int) (LV : Value) (w : World) (ls st : List Int) (h : SInv base s ⟨21, a, b, g, FA, nf, fc, lo, cd, res, LV⟩ w ls st 0) (hs : base ≤ s) (hb : st.length ≤ 17592186044300) (hl : 1 ≤ st.length) :
    Calls Tryd.prog 64 #[.pointer (some ⟨s, 0, none⟩)] w (PlainPost base s ⟨21, a, b, g, FA, nf, fc, lo, cd, res, LV⟩ w ls (st.take (st.length - 1)) (takeErr 0 [res] (st.drop (st.length - 1)))) := by
  obtain ⟨SV, h1, _⟩ := h.ex
  have c7 : w.cell? ⟨s, 7, none⟩ = some (.int .i64 res) := cell_of_row w s 7 _ _ _ h1
  have c0 : w.cell? ⟨s, 0, none⟩ = some (.int .i64 21) := cell_of_row w s 0 _ _ _ h1
  have HT := Lib.hid (take_lit' base s _ [res] 1 rfl #[.int .i64 res] rfl w ls st 0 h (by omega) (by omega) hs)
  clear h1 h
  go_enter Tryd.func64, Tryd.ntmps64
  go_wp2_with fail
  refine HT.out.mono ?_
  rintro e w1 ⟨A1, c1, rfl, ho, hd⟩
  have HD1 := Lib.hid hd
  clear ho hd
  go_wp2
  exact bodyPost_end (results_none rfl _ _ _) rfl ⟨rfl, HD1.out⟩
end Go.Proofs.YtdilmfnijkjiaaaDoor.K
