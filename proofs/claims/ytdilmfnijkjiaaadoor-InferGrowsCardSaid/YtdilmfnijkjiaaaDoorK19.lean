import Derived.Test.YtdilmfnijkjiaaaDoorK18b
import Derived.Deep.RegionHeld3
import Derived.Deep.RegionWith
set_option maxRecDepth 100000
set_option linter.unusedSimpArgs false
set_option linter.unusedVariables false
namespace Go.Proofs.YtdilmfnijkjiaaaDoor.K
open Go.RowKit
theorem SInv.lcell {base s : Nat} {K : SK} {w : World} {ls st : List Int} {err : Int} (h : SInv base s K w ls st err) {lad : Addr} {n lc : Nat} (hL : K.LV = .slice (some lad) n lc) (a : Int) (h0 : 0 ≤ a) (h1 : a < ls.length) : w.cell? (lad.add a.toNat) = some (.int .i64 (ls.getD a.toNat 0)) := by
  obtain ⟨_, _, hq, _⟩ := h.ex
  obtain ⟨A9, c9, e9, h9⟩ := hq.sl
  obtain ⟨la9, e10, h10⟩ := h9.getI a h0 h1
  subst e10
  rw [hL] at e9
  cases e9
  exact h10
set_option maxHeartbeats 1000000 in
theorem plain_3k (base s : Nat) (a b : Int) (g : Nat) (FA : Option Addr) (nf fc : Nat) (lo cd res : Int) (LV : Value) (w : World) (ls st : List Int) (h : SInv base s ⟨3, a, b, g, FA, nf, fc, lo, cd, res, LV⟩ w ls st 0) (hs : base ≤ s) (hb : st.length ≤ 17592186044300) (ha0 : 0 ≤ a) (ha1 : a < ls.length) (x : Int) (hgx : ls.getD a.toNat 0 = x) (hx : x ≠ -1) :
    Calls Tryd.prog 64 #[.pointer (some ⟨s, 0, none⟩)] w (PlainPost base s ⟨3, a, b, g, FA, nf, fc, lo, cd, res, LV⟩ w ls (st ++ [x]) 0) := by
  obtain ⟨SV, h1, _⟩ := h.ex
  have c0 : w.cell? ⟨s, 0, none⟩ = some (.int .i64 3) := cell_of_row w s 0 _ _ _ h1
  have c1 : w.cell? ⟨s, 1, none⟩ = some (.int .i64 a) := cell_of_row w s 1 _ _ _ h1
  have c8 : w.cell? ⟨s, 8, none⟩ = some LV := cell_of_row w s 8 _ _ _ h1
  obtain ⟨LA, lc, rfl, hls⟩ : ∃ LA lc, LV = .slice LA ls.length lc ∧ IntSl w LA lc ls := by obtain ⟨_, _, hq, _⟩ := h.ex; exact hq.sl
  obtain ⟨lad, rfl, hel⟩ := hls.getI a ha0 ha1
  rw [hgx] at hel
  have H := Lib.hid h
  have HL := Lib.hid hls
  have HGX := Lib.hid hgx
  have hx1 : (x == -1) = false := beq_eq_false_iff_ne.2 hx
  clear h h1 hls hgx hx
  go_enter Tryd.func64, Tryd.ntmps64
  go_wp2
  go_quiet (fail)
  have HD0 : Hid (Did base s ⟨3, a, b, g, FA, nf, fc, lo, cd, res, .slice (some lad) ls.length lc⟩ w ls st 0 (w.drewN nq)) := Lib.hid ⟨H.out.below (below_drewN' (below_refl _)), below_mono (below_drewN' (below_refl _)) (by have := H.out.lt; omega)⟩
  go_wp2
  have HD1 := HD0
  obtain ⟨SV2, k1⟩ := HD1.out.inv.blk
  have d1 : (w.drewN nq).cell? ⟨s, 1, none⟩ = some (.int .i64 a) := cell_of_row _ s 1 _ _ _ k1
  have d8 : (w.drewN nq).cell? ⟨s, 8, none⟩ = some (.slice (some lad) ls.length lc) := cell_of_row _ s 8 _ _ _ k1
  have d9 : (w.drewN nq).cell? (lad.add a.toNat) = some (.int .i64 x) := by
    rw [← HGX.out]
    exact HD1.out.inv.lcell rfl a ha0 ha1
  have HP := Lib.hid (put_lit base s _ [x] 1 rfl #[.int .i64 x] rfl (w.drewN nq).drew ls _ _ (HD1.out.inv.below (below_drew' (below_refl _))) (by omega) hs)
  clear k1
  go_region_with (first | (go_at_call 99; refine HP.out.mono ?_; rintro e w2 ⟨rfl, hd⟩; have HD2 := Lib.hid ((⟨HD1.out.inv.below (below_drew' (below_refl _)), HD1.out.bel.drew⟩ : Did base s _ w ls _ _ (w.drewN nq).drew).trans hd); clear hd))
  all_goals
    go_wp2
    all_goals exact bodyPost_end (results_none rfl _ _ _) rfl ⟨rfl, HD2.out⟩
set_option maxHeartbeats 1000000 in
theorem plain_3v (base s : Nat) (a b : Int) (g : Nat) (FA : Option Addr) (nf fc : Nat) (lo cd res : Int) (LV : Value) (w : World) (ls st : List Int) (h : SInv base s ⟨3, a, b, g, FA, nf, fc, lo, cd, res, LV⟩ w ls st 0) (hs : base ≤ s) (hb : st.length ≤ 17592186044300) (ha0 : 0 ≤ a) (ha1 : a < ls.length) (x : Int) (hgx : ls.getD a.toNat 0 = x) (hx : x = -1) :
    Calls Tryd.prog 64 #[.pointer (some ⟨s, 0, none⟩)] w (PlainPost base s ⟨3, a, b, g, FA, nf, fc, lo, cd, res, LV⟩ w ls (st ++ [x]) 15) := by
  obtain ⟨SV, h1, _⟩ := h.ex
  have c0 : w.cell? ⟨s, 0, none⟩ = some (.int .i64 3) := cell_of_row w s 0 _ _ _ h1
  have c1 : w.cell? ⟨s, 1, none⟩ = some (.int .i64 a) := cell_of_row w s 1 _ _ _ h1
  have c8 : w.cell? ⟨s, 8, none⟩ = some LV := cell_of_row w s 8 _ _ _ h1
  obtain ⟨LA, lc, rfl, hls⟩ : ∃ LA lc, LV = .slice LA ls.length lc ∧ IntSl w LA lc ls := by obtain ⟨_, _, hq, _⟩ := h.ex; exact hq.sl
  obtain ⟨lad, rfl, hel⟩ := hls.getI a ha0 ha1
  rw [hgx] at hel
  have H := Lib.hid h
  have HL := Lib.hid hls
  have HGX := Lib.hid hgx
  have hx1 : (x == -1) = true := beq_iff_eq.2 hx
  clear h h1 hls hgx hx
  go_enter Tryd.func64, Tryd.ntmps64
  go_wp2
  go_quiet (fail)
  have HD0 : Hid (Did base s ⟨3, a, b, g, FA, nf, fc, lo, cd, res, .slice (some lad) ls.length lc⟩ w ls st 0 (w.drewN nq)) := Lib.hid ⟨H.out.below (below_drewN' (below_refl _)), below_mono (below_drewN' (below_refl _)) (by have := H.out.lt; omega)⟩
  go_wp2_with fail
  refine (fail_calls base s _ 15 _ _ _ _ HD0.out.inv).mono ?_
  rintro e w3 ⟨rfl, hi, hbut⟩
  have HD1 : Hid (Did base s ⟨3, a, b, g, FA, nf, fc, lo, cd, res, .slice (some lad) ls.length lc⟩ w ls st 15 w3) := Lib.hid ⟨hi, HD0.out.bel.trans (below_base hbut hs (by have := HD0.out.inv.lt; omega))⟩
  clear hi hbut
  go_wp2
  obtain ⟨SV2, k1⟩ := HD1.out.inv.blk
  have d1 : w3.cell? ⟨s, 1, none⟩ = some (.int .i64 a) := cell_of_row _ s 1 _ _ _ k1
  have d8 : w3.cell? ⟨s, 8, none⟩ = some (.slice (some lad) ls.length lc) := cell_of_row _ s 8 _ _ _ k1
  have d9 : w3.cell? (lad.add a.toNat) = some (.int .i64 x) := by
    rw [← HGX.out]
    exact HD1.out.inv.lcell rfl a ha0 ha1
  have HP := Lib.hid (put_lit base s _ [x] 1 rfl #[.int .i64 x] rfl w3.drew ls _ _ (HD1.out.inv.below (below_drew' (below_refl _))) (by omega) hs)
  clear k1
  go_region_with (first | (go_at_call 99; refine HP.out.mono ?_; rintro e w2 ⟨rfl, hd⟩; have HD2 := Lib.hid ((⟨HD1.out.inv.below (below_drew' (below_refl _)), HD1.out.bel.drew⟩ : Did base s _ w ls _ _ w3.drew).trans hd); clear hd))
  all_goals
    go_wp2
    all_goals exact bodyPost_end (results_none rfl _ _ _) rfl ⟨rfl, HD2.out⟩
set_option maxHeartbeats 1000000 in
theorem plain_20 (base s : Nat) (a b : Int) (g : Nat) (FA : Option Addr) (nf fc : Nat) (lo cd res : Int) (LV : Value) (w : World) (ls st : List Int) (h : SInv base s ⟨20, a, b, g, FA, nf, fc, lo, cd, res, LV⟩ w ls st 0) (hs : base ≤ s) (hb : st.length ≤ 17592186044300) (W0 : World) (fs : List Fn) (hbase : base = W0.heap.size) (hW : Below W0.heap.size W0 w) (hF : FnSl W0 FA fc fs) (hnf : nf = fs.length) (ha0 : 0 ≤ a) (ha1 : a < fs.length) (hl : (fnAt fs a).params.length ≤ st.length) :
    Calls Tryd.prog 64 #[.pointer (some ⟨s, 0, none⟩)] w (PlainPost base s ⟨20, a, b, g, FA, nf, fc, lo, cd, res, LV⟩ w ls (st.take (st.length - (fnAt fs a).params.length) ++ [(fnAt fs a).result]) (takeErr 0 (fnAt fs a).params (st.drop (st.length - (fnAt fs a).params.length)))) := by
  obtain ⟨SV, h1, _⟩ := h.ex
  have c0 : w.cell? ⟨s, 0, none⟩ = some (.int .i64 20) := cell_of_row w s 0 _ _ _ h1
  have c1 : w.cell? ⟨s, 1, none⟩ = some (.int .i64 a) := cell_of_row w s 1 _ _ _ h1
  subst hbase hnf
  have c4 : w.cell? ⟨s, 4, none⟩ = some (.slice FA fs.length fc) := cell_of_row w s 4 _ _ _ h1
  obtain ⟨fad, PA, pc, rfl, p0, p1, p2, p3⟩ := hF.get a ha0 ha1
  have H := Lib.hid h
  have HP2 := Lib.hid p2
  have q0 := cell_below hW p0
  have Q0 := Lib.hid p0
  have Q1 := Lib.hid p1
  have HWW := Lib.hid hW
  have HLS := Lib.hid (show Below W0.heap.size W0 (less w s) from hW.trans ⟨rfl, rfl, rfl, by rw [less_size]; exact Nat.le_refl _, fun k hk => less_heap w s k (by omega)⟩)
  clear h h1 p0 p1 p2 p3 hF hW
  generalize fnAt fs a = fn at *
  obtain ⟨prm, rst, loc, cod⟩ := fn
  dsimp only at *
  go_enter Tryd.func64, Tryd.ntmps64
  go_wp2
  have HT := Lib.hid (take_at W0.heap.size s _ prm PA prm.length pc rfl w w.drew ls st 0 (H.out.below (below_drew' (below_refl _))) ((HP2.out.below HLS.out).below (But.of_below (below_drew' (below_refl w))).less) (below_mono (below_drew' (below_refl _)) (by have := H.out.lt; omega)) hl (by omega) hs)
  go_region_with (first | (go_at_call 101; refine HT.out.mono ?_; rintro e w1 ⟨A1, c1, rfl, ho, hd⟩; have HD := Lib.hid hd; clear ho hd))
  all_goals
    obtain ⟨SV2, k1⟩ := HD.out.inv.blk
    have d1 : w1.cell? ⟨s, 1, none⟩ = some (.int .i64 a) := cell_of_row _ s 1 _ _ _ k1
    have d4 : w1.cell? ⟨s, 4, none⟩ = some (.slice (some fad) fs.length fc) := cell_of_row _ s 4 _ _ _ k1
    have d5 : w1.cell? ⟨(fad.add (a.toNat * 4)).block, (fad.add (a.toNat * 4)).off + 1, none⟩ = some (.int .i64 rst) := cell_below (HWW.out.trans HD.out.bel) Q1.out
    have HP := Lib.hid (put_lit W0.heap.size s _ [rst] 1 rfl #[.int .i64 rst] rfl w1.drew ls _ _ (HD.out.inv.below (below_drew' (below_refl _))) (by simp; omega) hs)
    clear k1
    go_wp2
    go_region_with (first | (go_at_call 99; refine HP.out.mono ?_; rintro e w2 ⟨rfl, hd⟩; have HD2 := Lib.hid ((⟨HD.out.inv.below (below_drew' (below_refl _)), HD.out.bel.drew⟩ : Did W0.heap.size s _ w ls _ _ w1.drew).trans hd); clear hd))
    all_goals
      go_wp2
      all_goals exact bodyPost_end (results_none rfl _ _ _) rfl ⟨rfl, HD2.out⟩
end Go.Proofs.YtdilmfnijkjiaaaDoor.K
